-- Written by the session's own patched copy of the printer (wip/patch_print.py).
import Derived.Test.YtfahmmlkcmadeaaPFnRingOnex0
import Derived.Test.YtfahmmlkcmadeaaPFnRingOnex1
namespace Go.Proofs.Ytfahmmlkcmadeaa.PFnRingOne
open Go.RowKit Go.Proofs.YtfahmmlkcmadeaaW.PrintWords Go.Proofs.YtfahmmlkcmadeaaW.PrintLast Go.Proofs.YtfahmmlkcmadeaaW.PrintMore
attribute [local go_sem] max2_int min2_int max_two min_two max_three min_three max_four min_four   -- for this text's walks alone
set_option linter.unusedVariables false
set_option linter.unusedSimpArgs false

theorem q5_p {P : Program} {ops : Array Oper} {Q : Exit → Act → World → Prop} {md : Region.Mode} {S : World → Prop} {ds : List Nat} (i n : Nat) {oi : Oper} {v : Value} {fuel : Nat} {l : Array Bool} {a : Act} {w : World} (l' : Array Bool) {a' : Act} (h : wpAnyLast P md ops Q S ds fuel l' a' w) (hi : ops[i]? = some oi := by rfl) (hN : oi.dst = some n := by rfl) (hc : anyB md ops l l' i = true := by exact any_of HT_.out (by kernel_rfl)) (hQ : ∀ c a w, Q (.panic c) (a.put oi.dst v) w → Q (.panic c) a w := by exact fun _ _ _ h => h) (hy : Yields P ops oi v a := by refine Or.inl ⟨by rfl, ?_⟩; intro w'; go_simp; with_reducible rfl) (ha : a.put (some n) v = a' := by simp only [Act.put, List.setIfInBounds_toArray, List.set_cons_zero, List.set_cons_succ, i64_w, i32_w]; rfl) : wpAnyLast P md ops Q S ds (fuel + 1) l a w := pure_ (N := some n) l' hi hN hc hQ hy ha h
theorem q5_u {P : Program} {ops : Array Oper} {Q : Exit → Act → World → Prop} {md : Region.Mode} {S : World → Prop} {ds : List Nat} (i n : Nat) {oi : Oper} {fuel : Nat} {l : Array Bool} {a : Act} {w : World} (l' : Array Bool) {a' : Act} (h : wpAnyLast P md ops Q S ds fuel l' a' w) (hi : ops[i]? = some oi := by rfl) (hN : oi.dst = some n := by rfl) (hc : anyB md ops l l' i = true := by exact any_of HT_.out (by kernel_rfl)) (hQ : ∀ c a w, Q (.panic c) (a.put oi.dst undef) w → Q (.panic c) a w := by exact fun _ _ _ h => h) (hy : Yields P ops oi undef a := by exact Or.inr ⟨by rfl, rfl⟩) (ha : a.put (some n) undef = a' := by simp only [Act.put, List.setIfInBounds_toArray, List.set_cons_zero, List.set_cons_succ, i64_w, i32_w]; rfl) : wpAnyLast P md ops Q S ds (fuel + 1) l a w := pure_ (N := some n) l' hi hN hc hQ hy ha h
open Bool renaming true → T, false → F
theorem q5_0 {p : Prop} (h : p := by repeat (first | (with_reducible first | exact HB.out | apply below_alloc | apply pw_below_drewN | apply below_drew1 | refine below_set ?_ OA.out) | exact HB.out)) : p := h
theorem q5_1 {p : Prop} (h : p := by (with_reducible repeat (first | refine blk_drewN ?_ _ | refine blk_drew ?_ | refine blk_alloc ?_ _)); exact cA.out) : p := h
theorem q5_2 {p : Prop} (h : p := by repeat (first | (with_reducible first | exact HB.out | apply below_alloc | apply pw_below_drewN | apply below_drew1) | exact HB.out)) : p := h
theorem q5_3 {p : Prop} (h : p := by (with_reducible repeat (first | apply Kd.R_alloc | apply Kd.R_drewN | apply Kd.R_drew)); exact iA.out) : p := h
theorem q5_4 {p : Prop} (h : p := by (try simp only [List.map_toArray, List.map_cons, List.map_nil]); first | done | rfl | (simp only [List.length_drop, List.length_take]; rfl)) : p := h
theorem q5_5 {p : Prop} (h : p := by repeat (first | (with_reducible first | exact HBW.out | apply below_alloc | apply pw_below_drewN | apply below_drew1) | exact HBW.out)) : p := h
theorem q5_6 {p : Prop} (h : p := by first | rfl | (simp; done) | (simp [*]; done)) : p := h
theorem q5_7 {p : Prop} (h : p := by first | (with_reducible assumption) | assumption) : p := h
/-! ### impl_isNum: function 80 -/
def impl_isNum.f (a0 : Int) : Option (Bool) := (impl_within.f a0 0 4294967295).bind fun zA => (some zA)
set_option maxHeartbeats 8000000 in
set_option maxRecDepth 100000 in
theorem impl_isNum.calls (a0 : Int) (r : Bool) (w : World) (h : impl_isNum.f a0 = some r) :
  Calls Try.prog 80 #[.int .i64 a0] w fun e w' => e = .returned (.bool r) ∧ Drawn0 w w' := by
 have H : ((impl_within.f a0 0 4294967295).bind fun zA => (some zA)) = some r := h
 clear h
 replace H := Option.bind_eq_some_iff.mp H
 obtain ⟨zA, A20, H⟩ := H
 (try dsimp only at H)
 have A2 := Aside0.mk A20
 clear A20
 obtain rfl := Option.some.inj H
 go_enter Try.func80, Try.ntmps80
 go_wp2_with (first | ((with_reducible refine gate_callee (f := 51) rfl ?_); refine goesL_ (some 4) rfl rfl Try.func51 (by kernel_rfl) rfl #[.int .i64 a0, .int .i64 0, .int .i64 4294967295] rfl q5_4 ?_; (with_reducible refine (impl_within.calls a0 0 4294967295 zA _ A2.out).mono ?_); rintro e w' ⟨rfl, ⟨nd, rfl⟩⟩; refine ⟨_, rfl, ?_⟩))
 go_ret
 exact ⟨q5_6, by repeat (first | exact Drawn0.refl _ | apply Drawn0.step)⟩

/-! ### impl_RiItems: function 45 -/
mutual
def impl_RiItems.j0 : Nat → Int → List Int → Bool → List Int → Option (List Int)
 | 0, _, _, _, _ => none
 | k + 1, x0, x5, x21, bA => if x21 = true then (some x5) else (if 0 < (bA.length : Int) then (if 1 < (bA.length : Int) then ((impl_isNum.f (rd bA 0)).bind fun MA => (if MA = true then ((impl_isNum.f (rd bA 1)).bind fun NA => (if NA = true then ((impl_within.f (wrap64 ((rd bA 0) - (rd bA 1))) 0 x0).bind fun BA => (impl_RiItems.j1 k x0 x5 (rd bA 0) (rd bA 1) (!BA) bA)) else (impl_RiItems.j1 k x0 x5 (rd bA 0) (rd bA 1) true bA))) else (impl_RiItems.j1 k x0 x5 (rd bA 0) (rd bA 1) true bA))) else (none)) else (none))
def impl_RiItems.j1 : Nat → Int → List Int → Int → Int → Bool → List Int → Option (List Int)
 | 0, _, _, _, _, _, _ => none
 | k + 1, x0, x5, x6, x7, x46, bA => if x46 = true then (some x5) else (impl_RiItems.l0 k x0 x5 x6 x7 bA)
def impl_RiItems.l0 : Nat → Int → List Int → Int → Int → List Int → Option (List Int)
 | 0, _, _, _, _, _ => none
 | k + 1, x0, x5, x6, x8, bA => if x8 < x6 then (if x0 = 0 then (none) else (if 0 ≤ (wrap64 (3 + (wrap64 (2 * (Int.tmod x8 x0))))) then (if (wrap64 (3 + (wrap64 (2 * (Int.tmod x8 x0))))) < (bA.length : Int) then (if x5.length < 17592186044416 then (impl_RiItems.l0 k x0 (x5 ++ [rd bA (wrap64 (3 + (wrap64 (2 * (Int.tmod x8 x0)))))]) x6 (wrap64 (x8 + 1)) bA) else (none)) else (none)) else (none))) else (some x5)
end
def impl_RiItems.f (k : Nat) (a0 : Int) (aA : List Int) : Option (List Int) := (some (([] : List Int) : List Int)).bind fun y187 => ((impl_within.f a0 2 16).bind fun rA => (if rA = true then (impl_RiItems.j0 k a0 y187 ((aA.length : Int) != (wrap64 (2 + (wrap64 (2 * a0))))) aA) else (impl_RiItems.j0 k a0 y187 true aA)))
theorem impl_RiItems.mono_l : ∀ k, (∀ y0 y1 y2 y3, LeO (impl_RiItems.j0 k y0 y1 y2 y3) (impl_RiItems.j0 (k + 1) y0 y1 y2 y3)) ∧ (∀ y0 y1 y2 y3 y4 y5, LeO (impl_RiItems.j1 k y0 y1 y2 y3 y4 y5) (impl_RiItems.j1 (k + 1) y0 y1 y2 y3 y4 y5)) ∧ (∀ y0 y1 y2 y3 y4, LeO (impl_RiItems.l0 k y0 y1 y2 y3 y4) (impl_RiItems.l0 (k + 1) y0 y1 y2 y3 y4))
 | 0 => ⟨fun _ _ _ _ r h => by simp [impl_RiItems.j0] at h, fun _ _ _ _ _ _ r h => by simp [impl_RiItems.j1] at h, fun _ _ _ _ _ r h => by simp [impl_RiItems.l0] at h⟩
 | k + 1 => by
  obtain ⟨ih0, ih1, ih2⟩ := impl_RiItems.mono_l k
  refine ⟨?_, ?_, ?_⟩
  ·intro y0 y1 y2 y3
   unfold impl_RiItems.j0
   repeat' first
   | (with_reducible exact ih0 _ _ _ _)
   | (with_reducible exact ih1 _ _ _ _ _ _)
   | (with_reducible exact ih2 _ _ _ _ _)
   | (with_reducible exact LeO.refl _)
   | (with_reducible exact LeO.none _)
   | (with_reducible refine LeO.ite ?_ ?_)
   | (with_reducible refine LeO.bind ?_ (fun _ => ?_))
   | exact ih0 _ _ _ _
   | exact ih1 _ _ _ _ _ _
   | exact ih2 _ _ _ _ _
   | exact LeO.none _
   | refine LeO.ite ?_ ?_
   | refine LeO.bind ?_ (fun _ => ?_)
  ·intro y0 y1 y2 y3 y4 y5
   unfold impl_RiItems.j1
   repeat' first
   | (with_reducible exact ih0 _ _ _ _)
   | (with_reducible exact ih1 _ _ _ _ _ _)
   | (with_reducible exact ih2 _ _ _ _ _)
   | (with_reducible exact LeO.refl _)
   | (with_reducible exact LeO.none _)
   | (with_reducible refine LeO.ite ?_ ?_)
   | (with_reducible refine LeO.bind ?_ (fun _ => ?_))
   | exact ih0 _ _ _ _
   | exact ih1 _ _ _ _ _ _
   | exact ih2 _ _ _ _ _
   | exact LeO.none _
   | refine LeO.ite ?_ ?_
   | refine LeO.bind ?_ (fun _ => ?_)
  ·intro y0 y1 y2 y3 y4
   unfold impl_RiItems.l0
   repeat' first
   | (with_reducible exact ih0 _ _ _ _)
   | (with_reducible exact ih1 _ _ _ _ _ _)
   | (with_reducible exact ih2 _ _ _ _ _)
   | (with_reducible exact LeO.refl _)
   | (with_reducible exact LeO.none _)
   | (with_reducible refine LeO.ite ?_ ?_)
   | (with_reducible refine LeO.bind ?_ (fun _ => ?_))
   | exact ih0 _ _ _ _
   | exact ih1 _ _ _ _ _ _
   | exact ih2 _ _ _ _ _
   | exact LeO.none _
   | refine LeO.ite ?_ ?_
   | refine LeO.bind ?_ (fun _ => ?_)
theorem impl_RiItems.mono : ∀ a0 a1 k, LeO (impl_RiItems.f k a0 a1) (impl_RiItems.f (k + 1) a0 a1) := by
 intro a0 a1 k
 obtain ⟨ih0, ih1, ih2⟩ := impl_RiItems.mono_l k
 unfold impl_RiItems.f
 repeat' first
   | (with_reducible exact ih0 _ _ _ _)
   | (with_reducible exact ih1 _ _ _ _ _ _)
   | (with_reducible exact ih2 _ _ _ _ _)
   | (with_reducible exact LeO.refl _)
   | (with_reducible exact LeO.none _)
   | (with_reducible refine LeO.ite ?_ ?_)
   | (with_reducible refine LeO.bind ?_ (fun _ => ?_))
   | exact ih0 _ _ _ _
   | exact ih1 _ _ _ _ _ _
   | exact ih2 _ _ _ _ _
   | exact LeO.none _
   | refine LeO.ite ?_ ?_
   | refine LeO.bind ?_ (fun _ => ?_)
def impl_RiItems.T4 : Bool × List (List Nat × List Nat) := (true, [([], []), ([0], [0]), ([1], [1]), ([2], [2]), ([], []), ([4], [4]), ([5], [5]), ([6], [6]), ([3, 0, 1, 2, 3], [3]), ([7, 8, 0, 1, 2, 3, 4, 5, 6, 7, 8], [7])])
def impl_RiItems.B4 : List Nat := [0, 1, 3, 7, 0, 16, 48, 112, 15, 511]
theorem impl_RiItems.tab4 : rtab .any (opsOf Try.f45 4) = impl_RiItems.T4 := by kernel_rfl
theorem impl_RiItems.bits4 : waitsOk impl_RiItems.T4.2 impl_RiItems.B4 = true := by kernel_rfl
def impl_RiItems.T10 : Bool × List (List Nat × List Nat) := (true, [([], []), ([], []), ([1], [1]), ([], []), ([], []), ([3, 4], [3, 4]), ([5], [5]), ([6], [6]), ([2, 7], [2, 7]), ([8], [8]), ([9], [9]), ([0, 10], [0, 10]), ([11, 11, 0, 1, 2, 3, 4, 5, 6, 7, 8, 9, 10, 11], [0, 11])])
def impl_RiItems.B10 : List Nat := [0, 0, 2, 0, 0, 24, 56, 120, 254, 510, 1022, 2047, 4095]
theorem impl_RiItems.tab10 : rtab .any (opsOf Try.f45 10) = impl_RiItems.T10 := by kernel_rfl
theorem impl_RiItems.bits10 : waitsOk impl_RiItems.T10.2 impl_RiItems.B10 = true := by kernel_rfl
set_option maxHeartbeats 8000000 in
set_option maxRecDepth 100000 in
theorem impl_RiItems.calls (k : Nat) (a0 : Int) (yA : Option Addr) (jA : Nat) (aA : List Int) (r : List Int) (w : World) (CA : Kd.C (Kd.int .i64) w yA aA.length aA) (PA : aA.length ≤ jA) (h : impl_RiItems.f k a0 aA = some r) :
  Calls Try.prog 45 #[.int .i64 a0, .agg #[.slice yA aA.length jA]] w fun e w' => ∃ v0_ : Value, e = .returned (v0_) ∧ Kd.R (Kd.int .i64) 3 w' w.heap.size (fun _ => True) v0_ r ∧ Below w.heap.size w w' := by
 have hu29 := Try.underlying29
 have AA := Aside0.mk CA
 clear CA PA
 have HB := Aside0.mk (Below.refl w.heap.size w)
 have H : ((some (([] : List Int) : List Int)).bind fun y187 => ((impl_within.f a0 2 16).bind fun rA => (if rA = true then (impl_RiItems.j0 k a0 y187 ((aA.length : Int) != (wrap64 (2 + (wrap64 (2 * a0))))) aA) else (impl_RiItems.j0 k a0 y187 true aA)))) = some r := h
 clear h
 obtain ⟨y187, hy187⟩ : ∃ y_ : List Int, y_ = (([] : List Int)) := ⟨_, rfl⟩
 replace H : ((impl_within.f a0 2 16).bind fun rA => (if rA = true then (impl_RiItems.j0 k a0 y187 ((aA.length : Int) != (wrap64 (2 + (wrap64 (2 * a0))))) aA) else (impl_RiItems.j0 k a0 y187 true aA))) = some r := by first | (rw [hy187]; with_reducible exact H) | (have H2_ := (Option.bind_some _ _).symm.trans H; rw [hy187]; with_reducible exact H2_) | (have H2_ := (Option.bind_some _ _).symm.trans H; with_reducible exact H2_) | with_reducible exact H | (rw [hy187]; exact H) | exact H
 have Ny187 := Aside0.mk hy187
 clear hy187
 have HC3 := Aside0.mk H
 clear H
 go_enter Try.func45, Try.ntmps45
 go_upto_region 2 with (first | ((with_reducible refine gate_dst (N := 3) rfl ?_); (try (refine gate_guard (by rfl) ?_; dsimp only)); refine box_event ?hg (N := 3) ?hd (cs := #[.slice yA aA.length jA]) (t := 29) ?hr ?_; (case hd => rfl); (case hg => rfl); (case hr => first | (go_simp; done) | (go_simp; rfl)); intro gA hg w4 hbox hb; have lA := Aside0.mk (below_step q5_2 hb); have mA := Aside0.mk (hbox); have nA := Aside0.mk ((by rw [hg]; exact (below_size q5_2) : w.heap.size ≤ gA)); have DA := Aside0.mk ((by rw [hg]; exact (below_size q5_2) : w.heap.size ≤ gA)); clear HB; have HB := lA; have cA := mA; have fB := nA; have OA := DA; clear lA mA nA DA; clear hb hbox hg) | ((with_reducible refine gate_dst (N := 9) rfl ?_); (try (refine gate_guard (by rfl) ?_; dsimp only)); refine Kd.R_lit (Kd.int .i64) _ 3 ?hg (N := 9) ?hd (xs := ([] : List Int)) (inner := []) (ok := fun _ => True) (okp := fun _ => True) ?hr ?hp (fun _ hk => hk) trivial (Below.refl _ _) (Nat.le_refl _) (by simp) ?_; (case hd => rfl); (case hg => rfl); (case hr => first | (go_simp; done) | (go_simp; rfl)); (case hp => exact (Reps.none _ _)); intro QA w5 ho6 hb hg_ hnew_; clear hg_ hnew_; (first | rw [← Ny187.out] at ho6 | (simp only [Int.reduceToNat] at ho6; rw [← Ny187.out] at ho6)); have lA := Aside0.mk (Kd.R_lower ho6 (below_size q5_0)); have mA := Aside0.mk (blk_below (g := gA) (o := .cells #[.slice yA aA.length jA] 29 (0, 0)) q5_1 hb); have nA := Aside0.mk (below_step q5_0 hb); clear cA HB; have EA := lA; have cA := mA; have HB := nA; clear lA mA nA; clear hb ho6))
 (try simp only [Act.put, List.setIfInBounds_toArray, List.set_cons_zero, List.set_cons_succ])
 go_cut [21] (fun v21 wc => ∃ (kq : Nat) (uA : Bool), v21 = .bool uA ∧ Aside0 (impl_RiItems.j0 kq a0 y187 uA aA = some r) ∧ Aside0 (kq ≤ k) ∧ Aside0 (Kd.R (Kd.int .i64) 3 wc w.heap.size (fun _ => True) QA y187) ∧ Aside0 (wc.heap[gA]? = some (.cells #[(.slice yA aA.length jA)] 29 (0, 0))) ∧ Aside0 (Below w.heap.size w wc))
 case first =>
  have H := HC3.out
  clear HC3
  replace H := Option.bind_eq_some_iff.mp H
  obtain ⟨rA, A70, H⟩ := H
  (try dsimp only at H)
  have A7 := Aside0.mk A70
  clear A70
  by_cases c8 : rA = true
  ·subst c8
   rw [if_pos rfl] at H
   have H' := Aside0.mk H
   clear H
   go_wp2_with (first | ((with_reducible refine gate_callee (f := 51) rfl ?_); refine goesL_ (some 11) rfl rfl Try.func51 (by kernel_rfl) rfl #[.int .i64 a0, .int .i64 2, .int .i64 16] rfl q5_4 ?_; (with_reducible refine (impl_within.calls a0 2 16 true _ A7.out).mono ?_); rintro e w' ⟨rfl, ⟨nd, rfl⟩⟩; refine ⟨_, rfl, ?_⟩; have sA : w5.cell? ⟨gA, 0, none⟩ = some (.slice yA aA.length jA) := (blk_cell cA.out 0).trans rfl; have tA := blk_frozen cA.out 0))
   go_meet
   case rel => exact ⟨_, (((aA.length : Int) != (wrap64 (2 + (wrap64 (2 * a0)))))), q5_6, H', ⟨by first | omega | exact Nat.le_refl _⟩, ⟨by (with_reducible repeat (first | apply Kd.R_alloc | apply Kd.R_drewN | apply Kd.R_drew)); exact EA.out⟩, ⟨q5_1⟩, ⟨q5_0⟩⟩
  ·replace c8 := Bool.eq_false_iff.mpr c8
   subst c8
   rw [if_neg (show ¬ (false = true) by decide)] at H
   have H' := Aside0.mk H
   clear H
   go_wp2_with (first | ((with_reducible refine gate_callee (f := 51) rfl ?_); refine goesL_ (some 11) rfl rfl Try.func51 (by kernel_rfl) rfl #[.int .i64 a0, .int .i64 2, .int .i64 16] rfl q5_4 ?_; (with_reducible refine (impl_within.calls a0 2 16 false _ A7.out).mono ?_); rintro e w' ⟨rfl, ⟨nd, rfl⟩⟩; refine ⟨_, rfl, ?_⟩))
   go_meet
   case rel => exact ⟨_, (true), q5_6, H', ⟨by first | omega | exact Nat.le_refl _⟩, ⟨by (with_reducible repeat (first | apply Kd.R_alloc | apply Kd.R_drewN | apply Kd.R_drew)); exact EA.out⟩, ⟨q5_1⟩, ⟨q5_0⟩⟩
 case rest =>
  clear HC3
  (try clear c1); (try clear p2); (try clear c4); (try clear c5); (try clear p6); (try clear c8); (try clear sA); (try clear tA)
  obtain ⟨kq, uA, rfl, HA, HJ2, iA, cA, HB⟩ := hcut
  cases kq with
  | zero => exact absurd HA.out (by simp [impl_RiItems.j0])
  | succ kj2 =>
   have H := HA.out
   clear HA
   simp only [impl_RiItems.j0] at H
   by_cases c10 : uA = true
   ·subst c10
    rw [if_pos rfl] at H
    obtain rfl := Option.some.inj H
    go_wp2
    go_ret
    exact ⟨_, by first | rfl | (simp [errW_none, errW_some] <;> rfl) | (simp [*, errW_none, errW_some] <;> rfl), q5_3, q5_0⟩
   ·replace c10 := Bool.eq_false_iff.mpr c10
    subst c10
    rw [if_neg (show ¬ (false = true) by decide)] at H
    by_cases c11 : 0 < (aA.length : Int)
    ·rw [if_pos c11] at H
     have FA : decide (0 < (aA.length : Int)) = true := decide_eq_true c11
     have GA : decide (0 < aA.length) = true := decide_eq_true (by omega)
     clear c11
     by_cases c12 : 1 < (aA.length : Int)
     ·rw [if_pos c12] at H
      have IA : decide (1 < (aA.length : Int)) = true := decide_eq_true c12
      have JA : decide (1 < aA.length) = true := decide_eq_true (by omega)
      clear c12
      have HC13 := Aside0.mk H
      clear H
      try go_wp2
      have lA := Aside0.mk (Kd.R_drew iA.out)
      have mA := Aside0.mk (blk_drew cA.out)
      have nA := Aside0.mk (below_drew1 HB.out)
      clear iA cA HB
      have iA := lA
      have cA := mA
      have HB := nA
      clear lA mA nA
      have p191 : 0 ≤ (0 : Int) := (by omega)
      have q191 : 0 < (aA.length : Int) := of_decide_eq_true q5_7
      obtain ⟨ad191, YA, dA⟩ := Kd.at_int AA.out 0 p191 q191
      have hw191_0 := dA
      (try rw [show ((0 : Int)).toNat = 0 from rfl] at hw191_0)
      (try rw [show 0 * 1 = 0 from rfl] at hw191_0)
      (try rw [Addr.add_zero'] at hw191_0)
      cases YA
      have qi191 : (0 < aA.length) = True := eq_true (by omega)
      (try rw [show ((0 : Int)).toNat = 0 from rfl] at dA)
      (try rw [Addr.add_zero'] at dA)
      replace dA := (HB.out.cell (World.block_lt_of_cell? w _ dA)).trans dA
      replace p191 := eq_true p191
      replace q191 := eq_true q191
      have p192 : 0 ≤ (1 : Int) := (by omega)
      have q192 : 1 < (aA.length : Int) := of_decide_eq_true q5_7
      obtain ⟨ad192, ZA, eA⟩ := Kd.at_int AA.out 1 p192 q192
      have hw192_0 := eA
      (try rw [show ((1 : Int)).toNat = 1 from rfl] at hw192_0)
      (try rw [show 1 * 1 = 1 from rfl] at hw192_0)
      (try simp only [Nat.reduceMul, Nat.reduceEqDiff, Go.Addr.add, ↓reduceIte] at hw192_0)
      obtain rfl : ad191 = ad192 := (by injection ZA)
      (try simp only [show (1 : Int).toNat = 1 from rfl, Nat.reduceMul, Nat.reduceEqDiff, Go.Addr.add, ↓reduceIte] at eA)
      have qi192 : (1 < aA.length) = True := eq_true (by omega)
      (try rw [show ((1 : Int)).toNat = 1 from rfl] at eA)
      replace eA := (HB.out.cell (World.block_lt_of_cell? w _ eA)).trans eA
      replace p192 := eq_true p192
      replace q192 := eq_true q192
      refine start_ (n := 10) (S := fun w' => w'.cell? ⟨gA, 0, none⟩ = some (.slice (some ad191) aA.length jA) ∧ w'.cell? ad191 = some (.int .i64 (rd aA 0)) ∧ w'.cell? ⟨ad191.block, ad191.off + 1, none⟩ = some (.int .i64 (rd aA 1))) (ds := []) #[F,F,F,F,F,F,F,F,F,F] (by kernel_rfl) rfl rfl ⟨(blk_cell cA.out 0).trans rfl, ((HB.out.cell (World.block_lt_of_cell? w _ hw191_0)).trans hw191_0), ((HB.out.cell (World.block_lt_of_cell? w _ hw192_0)).trans hw192_0)⟩ (fun hHeld => ?_); refine with_tabW impl_RiItems.tab4 impl_RiItems.bits4 (fun HT_ HW_ => ?_)
      generalize wc.drew = nB at iA cA HB dA eA hHeld ⊢
      refine q5_p 0 23 #[T,F,F,F,F,F,F,F,F,F] ?_
      refine q5_p 4 27 #[T,F,F,F,T,F,F,F,F,F] ?_
      refine take_ (i := 1) (N := some 24) (v := ?_) (a' := ?_) #[T,T,F,F,T,F,F,F,F,F] rfl rfl (take_ofW HT_.out HW_.out (by kernel_rfl)) (fun _ _ _ h => h) (Or.inl ⟨by rfl, ?_⟩) hHeld ?_ ?_
      rotate_left
      ·rintro w' ⟨s0, s1, s2⟩
       go_simp
       with_reducible rfl
      rotate_left
      ·simp only [Act.put, List.setIfInBounds_toArray, List.set_cons_zero, List.set_cons_succ, i64_w, i32_w]
       rfl
      refine q5_p 2 25 #[T,T,T,F,T,F,F,F,F,F] ?_
      refine take_ (i := 3) (N := some 26) (v := ?_) (a' := ?_) #[T,T,T,T,T,F,F,F,F,F] rfl rfl (take_ofW HT_.out HW_.out (by kernel_rfl)) (fun _ _ _ h => h) (Or.inl ⟨by rfl, ?_⟩) hHeld ?_ ?_
      rotate_left
      ·rintro w' ⟨s0, s1, s2⟩
       go_simp
       with_reducible rfl
      rotate_left
      ·simp only [Act.put, List.setIfInBounds_toArray, List.set_cons_zero, List.set_cons_succ, i64_w, i32_w]
       rfl
      refine q5_p 8 6 #[T,T,T,T,T,F,F,F,T,F] ?_
      refine take_ (i := 5) (N := some 28) (v := ?_) (a' := ?_) #[T,T,T,T,T,T,F,F,T,F] rfl rfl (take_ofW HT_.out HW_.out (by kernel_rfl)) (fun _ _ _ h => h) (Or.inl ⟨by rfl, ?_⟩) hHeld ?_ ?_
      rotate_left
      ·rintro w' ⟨s0, s1, s2⟩
       go_simp
       with_reducible rfl
      rotate_left
      ·simp only [Act.put, List.setIfInBounds_toArray, List.set_cons_zero, List.set_cons_succ, i64_w, i32_w]
       rfl
      refine q5_p 6 29 #[T,T,T,T,T,T,T,F,T,F] ?_
      refine take_ (i := 7) (N := some 30) (v := ?_) (a' := ?_) #[T,T,T,T,T,T,T,T,T,F] rfl rfl (take_ofW HT_.out HW_.out (by kernel_rfl)) (fun _ _ _ h => h) (Or.inl ⟨by rfl, ?_⟩) hHeld ?_ ?_
      rotate_left
      ·rintro w' ⟨s0, s1, s2⟩
       go_simp
       with_reducible rfl
      rotate_left
      ·simp only [Act.put, List.setIfInBounds_toArray, List.set_cons_zero, List.set_cons_succ, i64_w, i32_w]
       rfl
      refine q5_p 9 7 #[T,T,T,T,T,T,T,T,T,T] ?_
      refine done_ (done_of HT_.out (by kernel_rfl)) ?_
      go_upto_region 5 with (fail)
      go_cut [46] (fun v46 wc => ∃ (kq : Nat) (oA : Bool), v46 = .bool oA ∧ Aside0 (impl_RiItems.j1 kq a0 y187 (rd aA 0) (rd aA 1) oA aA = some r) ∧ Aside0 (kq ≤ kj2) ∧ Aside0 (Kd.R (Kd.int .i64) 3 wc w.heap.size (fun _ => True) QA y187) ∧ Aside0 (wc.heap[gA]? = some (.cells #[(.slice (some ad191) aA.length jA)] 29 (0, 0))) ∧ Aside0 (Below w.heap.size w wc))
      case first =>
       have H := HC13.out
       clear HC13
       replace H := Option.bind_eq_some_iff.mp H
       obtain ⟨MA, A150, H⟩ := H
       (try dsimp only at H)
       have A15 := Aside0.mk A150
       clear A150
       by_cases c16 : MA = true
       ·subst c16
        rw [if_pos rfl] at H
        replace H := Option.bind_eq_some_iff.mp H
        obtain ⟨NA, A170, H⟩ := H
        (try dsimp only at H)
        have A17 := Aside0.mk A170
        clear A170
        by_cases c18 : NA = true
        ·subst c18
         rw [if_pos rfl] at H
         replace H := Option.bind_eq_some_iff.mp H
         obtain ⟨BA, A190, H⟩ := H
         (try dsimp only at H)
         have A19 := Aside0.mk A190
         clear A190
         have H' := Aside0.mk H
         clear H
         go_wp2_with (first | ((with_reducible refine gate_callee (f := 80) rfl ?_); refine goesL_ (some 32) rfl rfl Try.func80 (by kernel_rfl) rfl #[.int .i64 (rd aA 0)] rfl q5_4 ?_; (with_reducible refine (impl_isNum.calls (rd aA 0) true _ A15.out).mono ?_); rintro e w' ⟨rfl, ⟨nd, rfl⟩⟩; refine ⟨_, rfl, ?_⟩) | (go_at_call 80; (with_reducible refine (impl_isNum.calls (rd aA 1) true _ A17.out).mono ?_); rintro e w' ⟨rfl, ⟨nd, rfl⟩⟩) | (go_at_call 51; (with_reducible refine (impl_within.calls (wrap64 ((rd aA 0) - (rd aA 1))) 0 a0 BA _ A19.out).mono ?_); rintro e w' ⟨rfl, ⟨nd, rfl⟩⟩))
         go_meet
         case rel => exact ⟨_, (!BA), q5_6, H', ⟨by have := HJ2.out; first | omega | exact Nat.le_refl _⟩, ⟨q5_3⟩, ⟨q5_1⟩, ⟨q5_0⟩⟩
        ·replace c18 := Bool.eq_false_iff.mpr c18
         subst c18
         rw [if_neg (show ¬ (false = true) by decide)] at H
         have H' := Aside0.mk H
         clear H
         go_wp2_with (first | ((with_reducible refine gate_callee (f := 80) rfl ?_); refine goesL_ (some 32) rfl rfl Try.func80 (by kernel_rfl) rfl #[.int .i64 (rd aA 0)] rfl q5_4 ?_; (with_reducible refine (impl_isNum.calls (rd aA 0) true _ A15.out).mono ?_); rintro e w' ⟨rfl, ⟨nd, rfl⟩⟩; refine ⟨_, rfl, ?_⟩) | (go_at_call 80; (with_reducible refine (impl_isNum.calls (rd aA 1) false _ A17.out).mono ?_); rintro e w' ⟨rfl, ⟨nd, rfl⟩⟩))
         go_meet
         case rel => exact ⟨_, (true), q5_6, H', ⟨by have := HJ2.out; first | omega | exact Nat.le_refl _⟩, ⟨q5_3⟩, ⟨q5_1⟩, ⟨q5_0⟩⟩
       ·replace c16 := Bool.eq_false_iff.mpr c16
        subst c16
        rw [if_neg (show ¬ (false = true) by decide)] at H
        have H' := Aside0.mk H
        clear H
        go_wp2_with (first | ((with_reducible refine gate_callee (f := 80) rfl ?_); refine goesL_ (some 32) rfl rfl Try.func80 (by kernel_rfl) rfl #[.int .i64 (rd aA 0)] rfl q5_4 ?_; (with_reducible refine (impl_isNum.calls (rd aA 0) false _ A15.out).mono ?_); rintro e w' ⟨rfl, ⟨nd, rfl⟩⟩; refine ⟨_, rfl, ?_⟩))
        go_meet
        case rel => exact ⟨_, (true), q5_6, H', ⟨by have := HJ2.out; first | omega | exact Nat.le_refl _⟩, ⟨q5_3⟩, ⟨q5_1⟩, ⟨q5_0⟩⟩
      case rest =>
       clear HC13
       (try clear c1); (try clear p1); (try clear q1); (try clear hx1); (try clear qi1); (try clear p2); (try clear c4); (try clear c5); (try clear p6); (try clear c8); (try clear c10); (try clear c11); (try clear FA); (try clear GA); (try clear c12); (try clear IA); (try clear JA); (try clear c16); (try clear c18); (try clear p19); (try clear q19); (try clear hx19); (try clear qi19); (try clear sA); (try clear tA); (try clear dA); (try clear eA); (try clear p191); (try clear p192); (try clear p2); (try clear p6); (try clear q191); (try clear q192)
       obtain ⟨kq, oA, rfl, HA, HJ12, iA, cA, HB⟩ := hcut
       cases kq with
       | zero => exact absurd HA.out (by simp [impl_RiItems.j1])
       | succ kj12 =>
        have H := HA.out
        clear HA
        simp only [impl_RiItems.j1] at H
        by_cases c20 : oA = true
        ·subst c20
         rw [if_pos rfl] at H
         obtain rfl := Option.some.inj H
         go_wp2
         go_ret
         exact ⟨_, by first | rfl | (simp [errW_none, errW_some] <;> rfl) | (simp [*, errW_none, errW_some] <;> rfl), q5_3, q5_0⟩
        ·replace c20 := Bool.eq_false_iff.mpr c20
         subst c20
         rw [if_neg (show ¬ (false = true) by decide)] at H
         have H' := Aside0.mk H
         clear H
         go_wp2
         go_loopg [5, 8] kj12 (fun kq v5 v8 w' => ∃ (pA : List Int) (kA : Int), v8 = .int .i64 kA ∧ Aside0 (impl_RiItems.l0 kq a0 pA (rd aA 0) kA aA = some r) ∧ Aside0 (kq ≤ kj12) ∧ Aside0 (Kd.R (Kd.int .i64) 3 w' w.heap.size (fun _ => True) v5 pA) ∧ Aside0 (w'.heap[gA]? = some (.cells #[(.slice (some ad191) aA.length jA)] 29 (0, 0))) ∧ Aside0 (Below w.heap.size w w'))
         case atStart => exact ⟨(y187), ((rd aA 1)), q5_6, H', ⟨Nat.le_refl _⟩, ⟨q5_3⟩, ⟨q5_1⟩, ⟨q5_0⟩⟩
         case round =>
          clear H'
          (try clear c1); (try clear p1); (try clear q1); (try clear hx1); (try clear qi1); (try clear c2); (try clear p2); (try clear c4); (try clear c5); (try clear p6); (try clear c8); (try clear c10); (try clear c11); (try clear FA); (try clear GA); (try clear c12); (try clear IA); (try clear JA); (try clear c16); (try clear c18); (try clear p19); (try clear q19); (try clear hx19); (try clear qi19); (try clear c20); (try clear sA); (try clear tA); (try clear dA); (try clear eA); (try clear p1); (try clear p19); (try clear p191); (try clear p192); (try clear p2); (try clear p6); (try clear q1); (try clear q19); (try clear q191); (try clear q192)
          obtain ⟨pA, kA, rfl, HA, HK3, iA, cA, HB⟩ := hrel
          cases gk with
          | zero => exact absurd HA.out (by simp [impl_RiItems.l0])
          | succ k3 =>
           have H := HA.out
           clear HA
           simp only [impl_RiItems.l0] at H
           by_cases c21 : kA < (rd aA 0)
           ·rw [if_pos c21] at H
            have RA : decide (kA < (rd aA 0)) = true := decide_eq_true c21
            clear c21
            by_cases c22 : a0 = 0
            ·rw [if_pos c22] at H
             exact absurd H (by simp)
            ·rw [if_neg c22] at H
             have gB : (a0 == 0) = false := beq_eq_false_iff_ne.mpr c22
             have iB : (a0 != 0) = true := bne_iff_ne.mpr c22
             obtain ⟨ji23, hji23⟩ : ∃ j_ : Int, (wrap64 (3 + (wrap64 (2 * (Int.tmod kA a0))))) = j_ := ⟨_, rfl⟩
             replace H : (if 0 ≤ (ji23) then (if (ji23) < (aA.length : Int) then (if pA.length < 17592186044416 then (impl_RiItems.l0 k3 a0 (pA ++ [rd aA (ji23)]) (rd aA 0) (wrap64 (kA + 1)) aA) else (none)) else (none)) else (none)) = some r := by first | (rw [hji23] at H; exact H) | (simp only [hji23] at H ⊢; exact H)
             have hji23w : (IntKind.i64.wrap (3 + (wrap64 (2 * (Int.tmod kA a0))))) = ji23 := (i64_w _).trans hji23
             by_cases c24 : 0 ≤ (ji23)
             ·rw [if_pos c24] at H
              have jB : decide (0 ≤ (ji23)) = true := decide_eq_true c24
              clear c24
              by_cases c25 : (ji23) < (aA.length : Int)
              ·rw [if_pos c25] at H
               have kB : decide ((ji23) < (aA.length : Int)) = true := decide_eq_true c25
               clear c25
               by_cases c26 : pA.length < 17592186044416
               ·rw [if_pos c26] at H
                have LMc26 := Aside0.mk c26
                clear c26
                obtain ⟨y197, hy197⟩ : ∃ y_ : List Int, y_ = (pA ++ [rd aA (ji23)]) := ⟨_, rfl⟩
                replace H : (impl_RiItems.l0 k3 a0 y197 (rd aA 0) (wrap64 (kA + 1)) aA) = some r := by first | (rw [hy197]; with_reducible exact H) | (have H2_ := (Option.bind_some _ _).symm.trans H; rw [hy197]; with_reducible exact H2_) | (have H2_ := (Option.bind_some _ _).symm.trans H; with_reducible exact H2_) | with_reducible exact H | (rw [hy197]; exact H) | exact H
                have Ny197 := Aside0.mk hy197
                clear hy197
                have H' := Aside0.mk H
                clear H
                try go_wp2
                have lA := Aside0.mk (Kd.R_drew iA.out)
                have mA := Aside0.mk (blk_drew cA.out)
                have nA := Aside0.mk (below_drew1 HB.out)
                clear iA cA HB
                have iA := lA
                have cA := mA
                have HB := nA
                clear lA mA nA
                have p196 : 0 ≤ ((ji23) : Int) := of_decide_eq_true q5_7
                have q196 : (ji23) < (aA.length : Int) := of_decide_eq_true q5_7
                obtain ⟨ad196, bB, hA⟩ := Kd.at_int AA.out (ji23) p196 q196
                have hw196_0 := hA
                obtain rfl : ad191 = ad196 := (by injection bB)
                replace hA := (HB.out.cell (World.block_lt_of_cell? w _ hA)).trans hA
                replace p196 := eq_true p196
                replace q196 := eq_true q196
                refine start_ (n := 13) (S := fun w' => w'.cell? ⟨gA, 0, none⟩ = some (.slice (some ad191) aA.length jA) ∧ w'.cell? (ad191.add ((ji23)).toNat) = some (.int .i64 (rd aA (ji23)))) (ds := []) #[F,F,F,F,F,F,F,F,F,F,F,F,F] (by kernel_rfl) rfl rfl ⟨(blk_cell cA.out 0).trans rfl, ((HB.out.cell (World.block_lt_of_cell? w _ hw196_0)).trans hw196_0)⟩ (fun hHeld => ?_); refine with_tabW impl_RiItems.tab10 impl_RiItems.bits10 (fun HT_ HW_ => ?_)
                generalize wr.drew = oB at iA cA HB hA hHeld ⊢
                refine q5_p 0 54 #[T,F,F,F,F,F,F,F,F,F,F,F,F] ?_
                refine q5_p 1 55 #[T,T,F,F,F,F,F,F,F,F,F,F,F] ?_
                refine q5_p 3 57 #[T,T,F,T,F,F,F,F,F,F,F,F,F] ?_
                refine q5_p 4 58 #[T,T,F,T,T,F,F,F,F,F,F,F,F] ?_
                refine q5_p 5 59 #[T,T,F,T,T,T,F,F,F,F,F,F,F] ?_
                refine q5_p 6 60 #[T,T,F,T,T,T,T,F,F,F,F,F,F] ?_
                refine q5_p 7 61 #[T,T,F,T,T,T,T,T,F,F,F,F,F] ?_
                refine take_ (i := 2) (N := some 56) (v := ?_) (a' := ?_) #[T,T,T,T,T,T,T,T,F,F,F,F,F] rfl rfl (take_ofW HT_.out HW_.out (by kernel_rfl)) (fun _ _ _ h => h) (Or.inl ⟨by rfl, ?_⟩) hHeld ?_ ?_
                rotate_left
                ·rintro w' ⟨s0, s1⟩
                 go_simp
                 with_reducible rfl
                rotate_left
                ·simp only [Act.put, List.setIfInBounds_toArray, List.set_cons_zero, List.set_cons_succ, i64_w, i32_w]
                 rfl
                refine q5_p 8 62 #[T,T,T,T,T,T,T,T,T,F,F,F,F] ?_
                refine take_ (i := 9) (N := some 63) (v := ?_) (a' := ?_) #[T,T,T,T,T,T,T,T,T,T,F,F,F] rfl rfl (take_ofW HT_.out HW_.out (by kernel_rfl)) (fun _ _ _ h => h) (Or.inl ⟨by rfl, ?_⟩) hHeld ?_ ?_
                rotate_left
                ·rintro w' ⟨s0, s1⟩
                 go_simp
                 with_reducible rfl
                rotate_left
                ·simp only [Act.put, List.setIfInBounds_toArray, List.set_cons_zero, List.set_cons_succ, i64_w, i32_w]
                 rfl
                refine one_ (i := 10) (N := some 64) #[T,T,T,T,T,T,T,T,T,T,T,F,F] rfl rfl (one_of HT_.out (by kernel_rfl)) (by decide) (fun K hK => ?_)
                refine value_ (w1 := ?_) (v := ?_) (by rfl) rfl ?_ ?_
                rotate_left 2
                ·go_simp
                 constructor
                 ·rfl
                 ·rfl
                refine hK.out _ _ ⟨(blk_cell (blk_alloc cA.out _) 0).trans rfl, (World.cell?_alloc_lt _ _ _ (World.block_lt_of_cell? _ _ (((HB.out.cell (World.block_lt_of_cell? w _ hw196_0)).trans hw196_0)))).trans (((HB.out.cell (World.block_lt_of_cell? w _ hw196_0)).trans hw196_0))⟩ (fun hHeld => ?_)
                clear hK K
                refine norm_ (a' := ?_) ?_ ?_
                rotate_left
                ·show Act.put _ (some 64) _ = _
                 simp only [Act.put, List.setIfInBounds_toArray, List.set_cons_zero, List.set_cons_succ, i64_w, i32_w]
                 rfl
                refine one_ (i := 11) (N := some 65) #[T,T,T,T,T,T,T,T,T,T,T,T,F] rfl rfl (one_of HT_.out (by kernel_rfl)) (by decide) (fun K hK => ?_)
                refine Kd.R_append_step (Kd.int .i64) (w0 := w) w.heap.size (by rfl) (.tmp 54) (.tmp 64) 27 3 (.int .i64 0) 8 rfl Try.underlying27 info3 rfl (by decide) (by omega) u5 pA (rd aA (ji23)) [.int .i64 (rd aA (ji23))] (fun _ => True) (fun _ => False) rfl rfl ?aP (fun _ hk => hk.elim) ?aF ?aO ?aB ?aS ?aL ?_
                (case aP => exact rfl)
                (case aB => exact q5_0)
                (case aF => exact (fun _ _ => trivial))
                (case aO => exact q5_3)
                (case aS => exact (below_size q5_0))
                (case aL => have := LMc26.out; omega)
                intro lB pB ho hb hg hat
                rw [← Ny197.out] at ho
                have lA := Aside0.mk (blk_grown (g := gA) (o := .cells #[.slice (some ad191) aA.length jA] 29 (0, 0)) q5_1 hg (Kd.R_ne iA.out cA.out (by decide)))
                have mA := Aside0.mk (hb)
                have nA := Aside0.mk (ho)
                clear cA HB iA
                have cA := lA
                have HB := mA
                have SA := nA
                clear lA mA nA ho hb hg hat
                refine hK.out _ _ ⟨(blk_cell cA.out 0).trans rfl, ((HB.out.cell (World.block_lt_of_cell? w _ hw196_0)).trans hw196_0)⟩ (fun hHeld => ?_)
                clear hK K
                refine norm_ (a' := ?_) ?_ ?_
                rotate_left
                ·show Act.put _ (some 65) _ = _
                 simp only [Act.put, List.setIfInBounds_toArray, List.set_cons_zero, List.set_cons_succ, i64_w, i32_w]
                 rfl
                refine q5_p 12 5 #[T,T,T,T,T,T,T,T,T,T,T,T,T] ?_
                refine done_ (done_of HT_.out (by kernel_rfl)) ?_
                try go_wp2
                go_roundg k3
                case measure => have := HJ2.out; have := HJ12.out; have := HK3.out; omega
                case rel => exact ⟨(y197), (wrap64 (kA + 1)), q5_6, H', ⟨by have := HJ2.out; have := HJ12.out; have := HK3.out; omega⟩, ⟨by (with_reducible repeat (first | apply Kd.R_alloc | apply Kd.R_drewN | apply Kd.R_drew)); exact SA.out⟩, ⟨q5_1⟩, ⟨q5_0⟩⟩
               ·rw [if_neg c26] at H
                exact absurd H (by simp)
              ·rw [if_neg c25] at H
               exact absurd H (by simp)
             ·rw [if_neg c24] at H
              exact absurd H (by simp)
           ·rw [if_neg c21] at H
            have RA : decide (kA < (rd aA 0)) = false := decide_eq_false c21
            clear c21
            obtain rfl := Option.some.inj H
            go_wp2
            go_ret
            exact ⟨_, by first | rfl | (simp [errW_none, errW_some] <;> rfl) | (simp [*, errW_none, errW_some] <;> rfl), q5_3, q5_0⟩
     ·rw [if_neg c12] at H
      exact absurd H (by simp)
    ·rw [if_neg c11] at H
     exact absurd H (by simp)

/-- A state of type 81 at block g of W; what its slices lead to came in by w0. -/
def IsS81 (w0 W : World) (g : Nat) (f0 : List Int) (f1 : Int) (f2 : Int) : Prop := ∃ A0 c0, W.heap[g]? = some (.cells #[.slice A0 f0.length c0, .int .i64 f1, .int .i64 f2] 81 (0, 0)) ∧ w0.heap.size ≤ g ∧ Kd.C (Kd.int .u8) w0 A0 f0.length f0
theorem IsS81.grown {w0 W : World} {g : Nat} {f0 : List Int} {f1 : Int} {f2 : Int} {W1 : World} {row : Option Nat} (h : IsS81 w0 W g f0 f1 f2) (hw : W.grownBy W1 row) (hne : some g ≠ row) : IsS81 w0 W1 g f0 f1 f2 := by
 obtain ⟨A0, c0, hb, hg, hr0⟩ := h
 exact ⟨A0, c0, blk_grown hb hw hne, hg, hr0⟩
theorem IsS81.own_neN {w0 W : World} {g : Nat} {f0 : List Int} {f1 : Int} {f2 : Int} {α : Type} {d : Kd α} {e : Nat} {base : Nat} {ok : Nat → Prop} {v : Value} {xs : List α} (h : IsS81 w0 W g f0 f1 f2) (ho : Kd.N d e W base ok v xs) (ht : e ≠ 81) : some g ≠ v.ownBlock := by
 obtain ⟨A0, c0, hb, hg, hr0⟩ := h
 exact Kd.N_ne ho hb ht
theorem IsS81.fresh {w0 W : World} {g : Nat} {f0 : List Int} {f1 : Int} {f2 : Int} (h : IsS81 w0 W g f0 f1 f2) : ∀ k, W.heap.size ≤ k → k ≠ g := by
 obtain ⟨A0, c0, hb, hg, hr0⟩ := h
 exact Kd.freshB hb
theorem IsS81.kept {w0 W : World} {g : Nat} {f0 : List Int} {f1 : Int} {f2 : Int} {W1 : World} {S : Nat → Prop} (h : IsS81 w0 W g f0 f1 f2) (hk : Kept W W1 S) (hne : ¬ S g) : IsS81 w0 W1 g f0 f1 f2 := by
 obtain ⟨A0, c0, hb, hg, hr0⟩ := h
 exact ⟨A0, c0, blk_kept hb hk hne, hg, hr0⟩
theorem IsS81.below {w0 W : World} {g : Nat} {f0 : List Int} {f1 : Int} {f2 : Int} {W1 : World} (h : IsS81 w0 W g f0 f1 f2) (hw : Below W.heap.size W W1) : IsS81 w0 W1 g f0 f1 f2 := h.grown (grown_of_below hw none) (by simp)
theorem IsS81.alloc {w0 W : World} {g : Nat} {f0 : List Int} {f1 : Int} {f2 : Int} (h : IsS81 w0 W g f0 f1 f2) (o : Obj) : IsS81 w0 (W.alloc o) g f0 f1 f2 := h.below (below_alloc (Below.refl _ _) o)
theorem IsS81.drewN {w0 W : World} {g : Nat} {f0 : List Int} {f1 : Int} {f2 : Int} (h : IsS81 w0 W g f0 f1 f2) (m : Nat) : IsS81 w0 (W.drewN m) g f0 f1 f2 := h
theorem IsS81.drew {w0 W : World} {g : Nat} {f0 : List Int} {f1 : Int} {f2 : Int} (h : IsS81 w0 W g f0 f1 f2) : IsS81 w0 W.drew g f0 f1 f2 := h
theorem IsS81.at_ {w0 W : World} {g : Nat} {f0 : List Int} {f1 : Int} {f2 : Int} {w' : World} {m : Nat} (hq : W.drewN m = w') (h : IsS81 w0 W g f0 f1 f2) : IsS81 w0 w' g f0 f1 f2 := by subst hq; exact IsS81.drewN h m
theorem IsS81.apart {w0 W : World} {g : Nat} {f0 : List Int} {f1 : Int} {f2 : Int} {α : Type} {d : Kd α} {e : Nat} {base : Nat} {ok : Nat → Prop} {v : Value} {xs : List α} (h : IsS81 w0 W g f0 f1 f2) (ho : d.R e W base ok v xs) (ht : ∀ q, q ∈ e :: d.E → q ≠ 81) : d.R e W base (fun k => ok k ∧ k ≠ g) v xs := by
 obtain ⟨A0, c0, hb, hg, hr0⟩ := h
 exact Kd.R_types ho hb ht
theorem IsS81.own_ne {w0 W : World} {g : Nat} {f0 : List Int} {f1 : Int} {f2 : Int} {α : Type} {d : Kd α} {e : Nat} {base : Nat} {ok : Nat → Prop} {v : Value} {xs : List α} (h : IsS81 w0 W g f0 f1 f2) (ho : d.R e W base ok v xs) (ht : e ≠ 81) : some g ≠ v.ownBlock := by
 obtain ⟨A0, c0, hb, hg, hr0⟩ := h
 exact Kd.R_ne ho hb ht
theorem IsS81.apartQ {w0 W : World} {g : Nat} {f0 : List Int} {f1 : Int} {f2 : Int} {α : Type} {d : Kd α} {e : Nat} {base : Nat} {ok : Nat → Prop} {v : Value} {xs : List α} (h : IsS81 w0 W g f0 f1 f2) (ho : d.Q e W base ok v xs) (ht : ∀ q, q ∈ e :: d.E → q ≠ 81) : d.Q e W base (fun k => ok k ∧ k ≠ g) v xs := by
 obtain ⟨A0, c0, hb, hg, hr0⟩ := h
 exact Kd.Q_types ho hb ht
theorem IsS81.own_neQ {w0 W : World} {g : Nat} {f0 : List Int} {f1 : Int} {f2 : Int} {α : Type} {d : Kd α} {e : Nat} {base : Nat} {ok : Nat → Prop} {v : Value} {xs : List α} (h : IsS81 w0 W g f0 f1 f2) (ho : d.Q e W base ok v xs) (ht : e ≠ 81) : some g ≠ v.ownBlock := by
 obtain ⟨A0, c0, hb, hg, hr0⟩ := h
 exact Kd.Q_ne ho hb ht
theorem IsS81.apartS {w0 W : World} {g : Nat} {f0 : List Int} {f1 : Int} {f2 : Int} {α : Type} {d : Kd α} {e : Nat} {base : Nat} {ok : Nat → Prop} {v : Value} {xs : List α} (h : IsS81 w0 W g f0 f1 f2) (ho : d.S e W base ok v xs) (ht : ∀ q, q ∈ e :: d.E → q ≠ 81) : d.S e W base (fun k => ok k ∧ k ≠ g) v xs := by
 obtain ⟨A0, c0, hb, hg, hr0⟩ := h
 exact Kd.S_types ho hb ht
theorem IsS81.own_neS {w0 W : World} {g : Nat} {f0 : List Int} {f1 : Int} {f2 : Int} {α : Type} {d : Kd α} {e : Nat} {base : Nat} {ok : Nat → Prop} {v : Value} {xs : List α} (h : IsS81 w0 W g f0 f1 f2) (ho : d.S e W base ok v xs) (ht : e ≠ 81) : some g ≠ v.ownBlock := by
 obtain ⟨A0, c0, hb, hg, hr0⟩ := h
 exact Kd.S_ne ho hb ht
theorem IsS81.lt {w0 W : World} {g : Nat} {f0 : List Int} {f1 : Int} {f2 : Int} (h : IsS81 w0 W g f0 f1 f2) : g < W.heap.size := by
 obtain ⟨A0, c0, hb, hg, hr0⟩ := h
 exact blk_lt hb
theorem IsS81.ge {w0 W : World} {g : Nat} {f0 : List Int} {f1 : Int} {f2 : Int} (h : IsS81 w0 W g f0 f1 f2) : w0.heap.size ≤ g := by
 obtain ⟨A0, c0, hb, hg, hr0⟩ := h
 exact hg
theorem IsS81.ne_blk {w0 W : World} {g : Nat} {f0 : List Int} {f1 : Int} {f2 : Int} {a : Nat} {cs : Array Value} {t : TypeId} {fr : Nat × Nat} (h : IsS81 w0 W g f0 f1 f2) (hb2 : W.heap[a]? = some (.cells cs t fr)) (ht : t ≠ 81) : g ≠ a := by
 obtain ⟨A0, c0, hb, hg, hr0⟩ := h
 rintro rfl
 rw [hb] at hb2
 injection hb2 with hb2
 injection hb2 with _ ht2
 exact ht ht2.symm
theorem IsS81.far {w0 W : World} {g : Nat} {f0 : List Int} {f1 : Int} {f2 : Int} {p : Addr} (h : IsS81 w0 W g f0 f1 f2) (hne : g ≠ p.block) (u : Value) : IsS81 w0 (W.setCell p u) g f0 f1 f2 := by
 obtain ⟨A0, c0, hb, hg, hr0⟩ := h
 exact ⟨A0, c0, blk_far hb hne u, hg, hr0⟩
theorem IsS81.far_ {w0 W : World} {g : Nat} {f0 : List Int} {f1 : Int} {f2 : Int} {a o : Nat} {u : Value} (hne : g ≠ a) (h : IsS81 w0 W g f0 f1 f2) : IsS81 w0 (W.setCell ⟨a, o, none⟩ u) g f0 f1 f2 := IsS81.far (p := ⟨a, o, none⟩) h hne u
theorem cellS81_0 {W : World} {g : Nat} {A0 : Option Addr} {c0 : Nat} {f0 : List Int} {f1 : Int} {f2 : Int} (h : W.heap[g]? = some (.cells #[.slice A0 f0.length c0, .int .i64 f1, .int .i64 f2] 81 (0, 0))) : W.cell? ⟨g, 0, none⟩ = some (.slice A0 f0.length c0) := (blk_cell h 0).trans rfl
theorem cellS81_1 {W : World} {g : Nat} {A0 : Option Addr} {c0 : Nat} {f0 : List Int} {f1 : Int} {f2 : Int} (h : W.heap[g]? = some (.cells #[.slice A0 f0.length c0, .int .i64 f1, .int .i64 f2] 81 (0, 0))) : W.cell? ⟨g, 1, none⟩ = some (.int .i64 f1) := (blk_cell h 1).trans rfl
theorem IsS81.set_1 {w0 W : World} {g : Nat} {f0 : List Int} {f1 : Int} {f2 : Int} (h : IsS81 w0 W g f0 f1 f2) (x : Int) : IsS81 w0 (W.setCell ⟨g, 1, none⟩ (.int .i64 x)) g f0 x f2 := by
 obtain ⟨A0, c0, hb, hg, hr0⟩ := h
 exact ⟨A0, c0, by simpa using blk_set hb 1 (.int .i64 x), hg, hr0⟩
theorem cellS81_2 {W : World} {g : Nat} {A0 : Option Addr} {c0 : Nat} {f0 : List Int} {f1 : Int} {f2 : Int} (h : W.heap[g]? = some (.cells #[.slice A0 f0.length c0, .int .i64 f1, .int .i64 f2] 81 (0, 0))) : W.cell? ⟨g, 2, none⟩ = some (.int .i64 f2) := (blk_cell h 2).trans rfl
theorem IsS81.set_2 {w0 W : World} {g : Nat} {f0 : List Int} {f1 : Int} {f2 : Int} (h : IsS81 w0 W g f0 f1 f2) (x : Int) : IsS81 w0 (W.setCell ⟨g, 2, none⟩ (.int .i64 x)) g f0 f1 x := by
 obtain ⟨A0, c0, hb, hg, hr0⟩ := h
 exact ⟨A0, c0, by simpa using blk_set hb 2 (.int .i64 x), hg, hr0⟩
theorem IsS81.new (w0 W : World) (A0 : Option Addr) (c0 : Nat) (f0 : List Int) (f1 : Int) (f2 : Int) (hB : Below w0.heap.size w0 W) (hr0 : Kd.C (Kd.int .u8) w0 A0 f0.length f0) : IsS81 w0 (W.alloc (.cells #[.slice A0 f0.length c0, .int .i64 f1, .int .i64 f2] 81)) W.heap.size f0 f1 f2 := ⟨A0, c0, by simpa using heap_alloc_new W _, hB.size, hr0⟩

/-! ### spec_l01New: function 81 -/
def spec_l01New.l0 : Nat → List Int → Int → Int → Option (List Int × Int × Int)
 | 0, _, _, _ => none
 | k + 1, x0, x3, x4 => if x4 < (x0.length : Int) then (if x4 < 4000 then (if 0 ≤ x4 then (spec_l01New.l0 k x0 (Go.bits .and .i64 (wrap64 ((wrap64 ((wrap64 (x3 * 179)) + (wrap64 (rd x0 x4)))) + 7)) 1073741823) (wrap64 (x4 + 1))) else (none)) else (some (x0, 0, x3))) else (some (x0, 0, x3))
def spec_l01New.f (k : Nat) (l0 : List Int) : Option (List Int × Int × Int) := spec_l01New.l0 k l0 (wrap64 (774119 + (l0.length : Int))) 0
theorem spec_l01New.mono_l : ∀ k, (∀ y0 y1 y2, LeO (spec_l01New.l0 k y0 y1 y2) (spec_l01New.l0 (k + 1) y0 y1 y2))
 | 0 => fun _ _ _ r h => by simp [spec_l01New.l0] at h
 | k + 1 => by
  have ih0 := spec_l01New.mono_l k
  ·intro y0 y1 y2
   unfold spec_l01New.l0
   repeat' first
   | (with_reducible exact ih0 _ _ _)
   | (with_reducible exact LeO.refl _)
   | (with_reducible exact LeO.none _)
   | (with_reducible refine LeO.ite ?_ ?_)
   | (with_reducible refine LeO.bind ?_ (fun _ => ?_))
   | exact ih0 _ _ _
   | exact LeO.none _
   | refine LeO.ite ?_ ?_
   | refine LeO.bind ?_ (fun _ => ?_)
theorem spec_l01New.mono : ∀ a0 k, LeO (spec_l01New.f k a0) (spec_l01New.f (k + 1) a0) := by
 intro a0 k
 have ih0 := spec_l01New.mono_l k
 unfold spec_l01New.f
 repeat' first
   | (with_reducible exact ih0 _ _ _)
   | (with_reducible exact LeO.refl _)
   | (with_reducible exact LeO.none _)
   | (with_reducible refine LeO.ite ?_ ?_)
   | (with_reducible refine LeO.bind ?_ (fun _ => ?_))
   | exact ih0 _ _ _
   | exact LeO.none _
   | refine LeO.ite ?_ ?_
   | refine LeO.bind ?_ (fun _ => ?_)
set_option maxHeartbeats 8000000 in
set_option maxRecDepth 100000 in
theorem spec_l01New.calls (k : Nat) (A0 : Option Addr) (c0 : Nat) (l0 : List Int) (r1 : List Int) (r2 : Int) (r3 : Int) (w0 w : World) (hB : Below w0.heap.size w0 w) (hr0 : Kd.C (Kd.int .u8) w0 A0 l0.length l0) (hc0 : l0.length ≤ c0) (h : spec_l01New.f k l0 = some (r1, r2, r3)) :
  Calls Try.prog 81 #[.slice A0 l0.length c0] w fun e w' => ∃ g_ : Nat, e = .returned (.pointer (some ⟨g_, 0, none⟩)) ∧ IsS81 w0 w' g_ r1 r2 r3 ∧ Below w0.heap.size w0 w' ∧ Below w.heap.size w w' := by
 have hu81 := Try.underlying81
 have HR0 := Aside0.mk hr0
 clear hr0 hc0
 have HBW := Aside0.mk (Below.refl w.heap.size w)
 have HW0 := Aside0.mk hB.size
 have HB := Aside0.mk hB
 clear hB
 have H : (spec_l01New.l0 k l0 (wrap64 (774119 + (l0.length : Int))) 0) = some (r1, r2, r3) := h
 clear h
 have H' := Aside0.mk H
 clear H
 go_enter Try.func81, Try.ntmps81
 go_wp2
 go_loopg [3, 4] k (fun kq v3 v4 w' => ∃ (qA : Int) (fA : Int), v3 = .int .i64 qA ∧ v4 = .int .i64 fA ∧ Aside0 (spec_l01New.l0 kq l0 qA fA = some (r1, r2, r3)) ∧ Aside0 (kq ≤ k) ∧ Aside0 (Below w0.heap.size w0 w') ∧ Aside0 (Below w.heap.size w w'))
 case atStart => exact ⟨(wrap64 (774119 + (l0.length : Int))), (0), q5_6, q5_6, H', ⟨Nat.le_refl _⟩, ⟨q5_2⟩, ⟨q5_5⟩⟩
 case round =>
  clear H'
  obtain ⟨qA, fA, rfl, rfl, HA, HK1, HB, HBW⟩ := hrel
  cases gk with
  | zero => exact absurd HA.out (by simp [spec_l01New.l0])
  | succ k1 =>
   have H := HA.out
   clear HA
   simp only [spec_l01New.l0] at H
   by_cases c2 : fA < (l0.length : Int)
   ·rw [if_pos c2] at H
    have cB : decide (fA < (l0.length : Int)) = true := decide_eq_true c2
    clear c2
    by_cases c3 : fA < 4000
    ·rw [if_pos c3] at H
     have dB : decide (fA < 4000) = true := decide_eq_true c3
     clear c3
     by_cases c4 : 0 ≤ fA
     ·rw [if_pos c4] at H
      have mB : decide (0 ≤ fA) = true := decide_eq_true c4
      clear c4
      have H' := Aside0.mk H
      clear H
      have p200 : 0 ≤ (fA : Int) := of_decide_eq_true q5_7
      have q200 : fA < (l0.length : Int) := of_decide_eq_true q5_7
      obtain ⟨ad200, eB, vA⟩ := Kd.at_int HR0.out fA p200 q200
      cases eB
      replace vA := pw_cell_below HB.out vA
      replace p200 := eq_true p200
      replace q200 := eq_true q200
      go_wp2
      go_roundg k1
      case measure => have := HK1.out; omega
      case rel => exact ⟨(Go.bits .and .i64 (wrap64 ((wrap64 ((wrap64 (qA * 179)) + (wrap64 (rd l0 fA)))) + 7)) 1073741823), (wrap64 (fA + 1)), q5_6, q5_6, H', ⟨by have := HK1.out; omega⟩, ⟨q5_2⟩, ⟨q5_5⟩⟩
     ·rw [if_neg c4] at H
      exact absurd H (by simp)
    ·rw [if_neg c3] at H
     have dB : decide (fA < 4000) = false := decide_eq_false c3
     clear c3
     simp only [Option.some.injEq, Prod.mk.injEq] at H
     obtain ⟨rfl, rfl, rfl⟩ := H
     go_wp2_with (first | ((with_reducible refine gate_dst (N := 31) rfl ?_); refine box_event ?hg (N := 31) ?hd (cs := #[.slice A0 l0.length c0, .int .i64 0, .int .i64 qA]) (t := 81) ?hr ?_; (case hd => rfl); (case hg => rfl); (case hr => first | (go_simp; done) | (go_simp; rfl)); intro wA hg w5 hbox hb; have lA := Aside0.mk (below_step HBW.out hb); have mA := Aside0.mk (below_step q5_2 hb); have nA := Aside0.mk (hbox); have DA := Aside0.mk ((by rw [hg]; exact (below_size q5_5) : w.heap.size ≤ wA)); have TA := Aside0.mk ((Nat.le_trans HW0.out (by rw [hg]; exact (below_size q5_5) : w.heap.size ≤ wA) : w0.heap.size ≤ wA)); clear HBW HB; have HBW := lA; have HB := mA; have UA := nA; have VA := DA; have KA := TA; clear lA mA nA DA TA; clear hb hbox hg))
     go_ret
     exact ⟨_, rfl, (show IsS81 w0 _ wA l0 0 qA from ⟨_, _, by (with_reducible repeat (first | refine blk_drewN ?_ _ | refine blk_drew ?_ | refine blk_alloc ?_ _)); exact UA.out, KA.out, HR0.out⟩), by repeat (first | (with_reducible first | exact HB.out | apply below_alloc | apply pw_below_drewN | apply below_drew1 | refine below_set ?_ KA.out) | exact HB.out), by repeat (first | (with_reducible first | exact HBW.out | apply below_alloc | apply pw_below_drewN | apply below_drew1 | refine below_set ?_ VA.out) | exact HBW.out)⟩
   ·rw [if_neg c2] at H
    have cB : decide (fA < (l0.length : Int)) = false := decide_eq_false c2
    clear c2
    simp only [Option.some.injEq, Prod.mk.injEq] at H
    obtain ⟨rfl, rfl, rfl⟩ := H
    go_wp2_with (first | ((with_reducible refine gate_dst (N := 31) rfl ?_); refine box_event ?hg (N := 31) ?hd (cs := #[.slice A0 l0.length c0, .int .i64 0, .int .i64 qA]) (t := 81) ?hr ?_; (case hd => rfl); (case hg => rfl); (case hr => first | (go_simp; done) | (go_simp; rfl)); intro xA hg w6 hbox hb; have lA := Aside0.mk (below_step HBW.out hb); have mA := Aside0.mk (below_step q5_2 hb); have nA := Aside0.mk (hbox); have DA := Aside0.mk ((by rw [hg]; exact (below_size q5_5) : w.heap.size ≤ xA)); have TA := Aside0.mk ((Nat.le_trans HW0.out (by rw [hg]; exact (below_size q5_5) : w.heap.size ≤ xA) : w0.heap.size ≤ xA)); clear HBW HB; have HBW := lA; have HB := mA; have WA := nA; have XA := DA; have LA := TA; clear lA mA nA DA TA; clear hb hbox hg))
    go_ret
    exact ⟨_, rfl, (show IsS81 w0 _ xA l0 0 qA from ⟨_, _, by (with_reducible repeat (first | refine blk_drewN ?_ _ | refine blk_drew ?_ | refine blk_alloc ?_ _)); exact WA.out, LA.out, HR0.out⟩), by repeat (first | (with_reducible first | exact HB.out | apply below_alloc | apply pw_below_drewN | apply below_drew1 | refine below_set ?_ LA.out) | exact HB.out), by repeat (first | (with_reducible first | exact HBW.out | apply below_alloc | apply pw_below_drewN | apply below_drew1 | refine below_set ?_ XA.out) | exact HBW.out)⟩

end Go.Proofs.Ytfahmmlkcmadeaa.PFnRingOne
