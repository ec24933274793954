-- Written by the session's own program (wip/steplaw.py): the law's walk, each call once.
import Derived.Test.YtjikobdblohphaaPFnExactLiStepx0
import Derived.Test.YtjikobdblohphaaPFnExactLiStepx1
import Derived.Test.YtjikobdblohphaaPFnExactLiStepx6
import Derived.Test.YtjikobdblohphaaPFnExactLiStepx7
import Derived.Test.YtjikobdblohphaaPFnExactLiStepx11
namespace Go.Proofs.Ytjikobdblohphaa.PFnExactLiStep
open Go.RowKit Go.Proofs.YtjikobdblohphaaW.PrintWords Go.Proofs.YtjikobdblohphaaW.PrintLast Go.Proofs.YtjikobdblohphaaW.PrintMore
attribute [local go_sem] max2_int min2_int max_two min_two max_three min_three max_four min_four   -- for this text's walks alone
set_option linter.unusedVariables false
set_option linter.unusedSimpArgs false

/-! ### laws_FnExactLiStep: function 6 (walked by hand) -/
def laws_FnExactLiStep.T5 : Bool × List (List Nat × List Nat) := (true, [([], []), ([], []), ([1], [1]), ([], []), ([3, 2], [3]), ([0, 2, 4, 4], [0, 2, 4]), ([5], [5]), ([6], [6]), ([6], [6]), ([6], [6]), ([], []), ([], []), ([10, 7, 5, 0, 1, 2, 3, 4, 5, 6, 7, 10, 11], [7, 10]), ([11, 8, 12, 0, 1, 2, 3, 4, 5, 6, 7, 8, 10, 11, 12], [8, 11]), ([9, 13, 0, 1, 2, 3, 4, 5, 6, 7, 8, 9, 10, 11, 12, 13], [9])])
def laws_FnExactLiStep.B5 : List Nat := [0, 0, 2, 0, 14, 31, 63, 127, 127, 127, 0, 0, 3327, 7679, 16383]
theorem laws_FnExactLiStep.tab5 : rtab .any (opsOf Try.f6 5) = laws_FnExactLiStep.T5 := by kernel_rfl
theorem laws_FnExactLiStep.bits5 : waitsOk laws_FnExactLiStep.T5.2 laws_FnExactLiStep.B5 = true := by kernel_rfl
def laws_FnExactLiStep.T7 : Bool × List (List Nat × List Nat) := (true, [([], []), ([], []), ([], []), ([2], [2]), ([0, 1, 3, 3], [0, 1, 3]), ([4], [4]), ([5], [5]), ([5], [5]), ([5], [5]), ([], []), ([], []), ([9, 6, 4, 0, 1, 2, 3, 4, 5, 6, 9, 10], [6, 9]), ([10, 7, 11, 0, 1, 2, 3, 4, 5, 6, 7, 9, 10, 11], [7, 10]), ([8, 12, 0, 1, 2, 3, 4, 5, 6, 7, 8, 9, 10, 11, 12], [8])])
def laws_FnExactLiStep.B7 : List Nat := [0, 0, 0, 4, 15, 31, 63, 63, 63, 0, 0, 1663, 3839, 8191]
theorem laws_FnExactLiStep.tab7 : rtab .any (opsOf Try.f6 7) = laws_FnExactLiStep.T7 := by kernel_rfl
theorem laws_FnExactLiStep.bits7 : waitsOk laws_FnExactLiStep.T7.2 laws_FnExactLiStep.B7 = true := by kernel_rfl
def laws_FnExactLiStep.T24 : Bool × List (List Nat × List Nat) := (true, [([], []), ([], []), ([1], [1]), ([], []), ([3, 2], [3]), ([0, 2, 4, 4], [0, 2, 4]), ([5], [5]), ([6], [6]), ([6], [6]), ([6], [6]), ([], []), ([], []), ([10, 7, 5, 0, 1, 2, 3, 4, 5, 6, 7, 10, 11], [7, 10]), ([11, 8, 12, 0, 1, 2, 3, 4, 5, 6, 7, 8, 10, 11, 12], [8, 11]), ([9, 13, 0, 1, 2, 3, 4, 5, 6, 7, 8, 9, 10, 11, 12, 13], [9])])
def laws_FnExactLiStep.B24 : List Nat := [0, 0, 2, 0, 14, 31, 63, 127, 127, 127, 0, 0, 3327, 7679, 16383]
theorem laws_FnExactLiStep.tab24 : rtab .any (opsOf Try.f6 24) = laws_FnExactLiStep.T24 := by kernel_rfl
theorem laws_FnExactLiStep.bits24 : waitsOk laws_FnExactLiStep.T24.2 laws_FnExactLiStep.B24 = true := by kernel_rfl
theorem R_sets_ {α : Type} {d : Kd α} {e g t base : Nat} {w w1 : World} {ok : Nat → Prop} {v : Value} {xs : List α} {cells : Array Value} (h : Kd.R d e w base ok v xs) (hb : w.heap[g]? = some (.cells cells t (0, 0))) (ht : ∀ q, q ∈ e :: d.E → q ≠ t) (hs : ∀ k, k ≠ g → w1.heap[k]? = w.heap[k]?) : Kd.R d e w1 base ok v xs := Kd.R_mono (Kd.R_step (Kd.R_types h hb ht) (fun k hk _ => hs k hk.2)) (fun _ hk => hk.1)
theorem set_step_ {g i : Nat} {w w1 : World} {u : Value} (h : ∀ k, k ≠ g → w1.heap[k]? = w.heap[k]?) : ∀ k, k ≠ g → (w1.setCell ⟨g, i, none⟩ u).heap[k]? = w.heap[k]? := fun k hk => (Below.heap_setCell w1 ⟨g, i, none⟩ u k hk).trans (h k hk)
theorem keptI_ {α : Type} {d : Kd α} {e base x y a b : Nat} {w w1 : World} {v : Value} {xs : List α} (h : Kd.R d e w base (fun k_ => x ≤ k_ ∧ k_ < y) v xs) (hk : Kept w w1 (fun k_ => a ≤ k_ ∧ k_ < b)) (hd : y ≤ a ∨ b ≤ x) : Kd.R d e w1 base (fun k_ => x ≤ k_ ∧ k_ < y) v xs := Kd.R_kept h hk (fun k h1 h2 => by omega)
theorem blkI_ {w w1 : World} {g a b : Nat} {ob : Obj} (h : w.heap[g]? = some ob) (hk : Kept w w1 (fun k_ => a ≤ k_ ∧ k_ < b)) (hd : g < a ∨ b ≤ g) : w1.heap[g]? = some ob := blk_kept h hk (by omega)
theorem ne_t_ {w : World} {g g' t t' : Nat} {cs cs' : Array Value} (h : w.heap[g]? = some (.cells cs t (0, 0))) (h' : w.heap[g']? = some (.cells cs' t' (0, 0))) (ht : t ≠ t') : g ≠ g' := by
  rintro rfl
  rw [h] at h'
  injection h' with h'
  injection h' with _ h'
  exact ht h'
theorem heap_alloc_lt_ (w : World) (ob : Obj) (g : Nat) (h : g < w.heap.size) : (w.alloc ob).heap[g]? = w.heap[g]? := (below_alloc (Below.refl w.heap.size w) ob).block g h
set_option maxRecDepth 100000 in
set_option maxHeartbeats 2000000 in
theorem laws_FnExactLiStep.small (k : Nat) (n : Int) (A1 : Option Addr) (c1 : Nat) (l : List Int) (a_0 a_1 a_2 a_3 a_4 a_5 a_6 a_7 a_8 : Int) (a_9 : Bool) (s : Int) (w : World) (hr : Kd.C (Kd.int .i64) w A1 l.length l) (hc : l.length ≤ c1) (p1 : laws_szMem.f l 1048576 = some s) (hs : s < 0) :
    Calls Try.prog 6 #[.int .i64 n, .agg #[.slice A1 l.length c1], .agg #[.int .i64 a_0, .int .i64 a_1, .int .i64 a_2, .int .i64 a_3, .int .i64 a_4, .int .i64 a_5, .int .i64 a_6, .int .i64 a_7, .int .i64 a_8, .bool a_9]] w fun e w' => e = .returned (.bool true) ∧ Below w.heap.size w w' := by
  have HR := Aside0.mk hr
  have HC := Aside0.mk hc
  have P1 := Aside0.mk p1
  clear hr hc p1
  have HA := Aside0.mk (below_alloc (below_alloc (Below.refl w.heap.size w) (.cells #[.slice A1 l.length c1] 43 (0, 0))) (.cells #[.int .i64 a_0, .int .i64 a_1, .int .i64 a_2, .int .i64 a_3, .int .i64 a_4, .int .i64 a_5, .int .i64 a_6, .int .i64 a_7, .int .i64 a_8, .bool a_9] 35 (0, 0)))
  have hs0 : decide (s < 0) = true := decide_eq_true hs
  go_enter Try.func6, Try.ntmps6
  go_wp2_with fail
  refine (laws_szMem.calls _ _ l 1048576 s _ (Kd.C_below HR.out HA.out) HC.out P1.out).mono ?_
  rintro e w1 ⟨rfl, hb⟩
  have HB := Aside0.mk (below_step HA.out hb)
  clear hb
  go_wp2
  go_ret
  exact ⟨rfl, HB.out⟩
set_option maxRecDepth 100000 in
set_option maxHeartbeats 16000000 in
theorem laws_FnExactLiStep.walk (k : Nat) (n : Int) (A1 : Option Addr) (c1 : Nat) (l : List Int) (a_0 a_1 a_2 a_3 a_4 a_5 a_6 a_7 a_8 : Int) (a_9 : Bool) (s : Int) (M MM LL : List Int) (r_0 r_1 r_2 r_3 r_4 r_5 r_6 r_7 r_8 : Int) (r_9 q : Bool) (m m0 : Int) (w : World) (hr : Kd.C (Kd.int .i64) w A1 l.length l) (hc : l.length ≤ c1)
    (p1 : laws_szMem.f l 1048576 = some s) (hs : ¬ s < 0) (p2 : laws_toMem.f k l = some l) (p3 : spec_LiStep.f k n l a_0 a_1 a_2 a_3 a_4 a_5 a_6 a_7 a_8 a_9 = some (M, r_0, r_1, r_2, r_3, r_4, r_5, r_6, r_7, r_8, r_9, q)) (p4 : impl_LiStep.f k n l a_0 a_1 a_2 a_3 a_4 a_5 a_6 a_7 a_8 a_9 = some (M, r_0, r_1, r_2, r_3, r_4, r_5, r_6, r_7, r_8, r_9, q)) (p5 : laws_eqMem.f k M M = some true) (p6 : laws_eqMem.f k l l = some true) (p7 : laws_eqCall.f r_0 r_1 r_2 r_3 r_4 r_5 r_6 r_7 r_8 r_9 r_0 r_1 r_2 r_3 r_4 r_5 r_6 r_7 r_8 r_9 = some true) (p8 : laws_markMem.f k l 1 = some (m0, LL)) (hm0 : ¬ m0 < 0) (p9 : laws_markMem.f k M 1 = some (m, MM)) (p10 : laws_heldMem.f k MM 1 = some m) (hm : ¬ m < 0) :
    Calls Try.prog 6 #[.int .i64 n, .agg #[.slice A1 l.length c1], .agg #[.int .i64 a_0, .int .i64 a_1, .int .i64 a_2, .int .i64 a_3, .int .i64 a_4, .int .i64 a_5, .int .i64 a_6, .int .i64 a_7, .int .i64 a_8, .bool a_9]] w fun e w' => e = .returned (.bool true) ∧ Below w.heap.size w w' := by
  have HR := Aside0.mk hr
  have HC := Aside0.mk hc
  have P1 := Aside0.mk p1
  clear hr hc p1
  have HA := Aside0.mk (below_alloc (below_alloc (Below.refl w.heap.size w) (.cells #[.slice A1 l.length c1] 43 (0, 0))) (.cells #[.int .i64 a_0, .int .i64 a_1, .int .i64 a_2, .int .i64 a_3, .int .i64 a_4, .int .i64 a_5, .int .i64 a_6, .int .i64 a_7, .int .i64 a_8, .bool a_9] 35 (0, 0)))
  have P2 := Aside0.mk p2
  have P3 := Aside0.mk p3
  have P4 := Aside0.mk p4
  have P5 := Aside0.mk p5
  have P6 := Aside0.mk p6
  have P7 := Aside0.mk p7
  have P8 := Aside0.mk p8
  have P9 := Aside0.mk p9
  have P10 := Aside0.mk p10
  clear p2 p3 p4 p5 p6 p7 p8 p9 p10
  have P0 := Aside0.mk (show laws_toCall.f a_0 a_1 a_2 a_3 a_4 a_5 a_6 a_7 a_8 a_9 = some (a_0, a_1, a_2, a_3, a_4, a_5, a_6, a_7, a_8, a_9) from rfl)
  have hs0 : decide (s < 0) = false := decide_eq_false hs
  have hm1 : decide (m < 0) = false := decide_eq_false hm
  have hm2 : decide (m0 < 0) = false := decide_eq_false hm0
  clear hs hm hm0
  go_enter Try.func6, Try.ntmps6
  go_wp2_with fail
  refine (laws_szMem.calls _ _ l 1048576 s _ (Kd.C_below HR.out HA.out) HC.out P1.out).mono ?_
  rintro e w1 ⟨rfl, hb⟩
  have HB := Aside0.mk (below_step HA.out hb)
  have B4 := Aside0.mk (show w1.heap[w.heap.size]? = some (.cells #[.slice A1 l.length c1] 43 (0, 0)) from (hb.block _ (by simp <;> omega)).trans ((heap_alloc_lt_ _ _ _ (by simp)).trans (by simpa using heap_alloc_new w _)))
  have B5 := Aside0.mk (show w1.heap[w.heap.size + 1]? = some (.cells #[.int .i64 a_0, .int .i64 a_1, .int .i64 a_2, .int .i64 a_3, .int .i64 a_4, .int .i64 a_5, .int .i64 a_6, .int .i64 a_7, .int .i64 a_8, .bool a_9] 35 (0, 0)) from (hb.block _ (by simp)).trans (by simpa using heap_alloc_new (w.alloc _) _))
  clear hb
  go_wp2
  replace B4 := Aside0.mk (blk_drew B4.out)
  replace B5 := Aside0.mk (blk_drew B5.out)
  replace HB := Aside0.mk (below_drew1 HB.out)
  refine start_ (n := 15) (S := fun w' => True) (ds := []) #[false, false, false, false, false, false, false, false, false, false, false, false, false, false, false] (by kernel_rfl) rfl rfl trivial (fun hHeld => ?_); refine with_tabW laws_FnExactLiStep.tab5 laws_FnExactLiStep.bits5 (fun HT_ HW_ => ?_)
  generalize (w1).drew = w2 at B4 B5 HB hHeld ⊢
  have D := Aside0.mk (Below.refl w2.heap.size w2)
  have L2w := Aside0.mk (show w.heap.size + 1 < w2.heap.size from blk_lt B5.out)
  refine pure_ (i := 0) (N := some 27) (v := ?_) (a' := ?_) #[true, false, false, false, false, false, false, false, false, false, false, false, false, false, false] rfl rfl (any_of HT_.out (by kernel_rfl)) (fun _ _ _ h => h) (Or.inl ⟨by rfl, ?_⟩) ?_ ?_
  rotate_left
  · intro w'
    go_simp
    with_reducible rfl
  rotate_left
  · simp only [Act.put, List.setIfInBounds_toArray, List.set_cons_zero, List.set_cons_succ, i64_w, i32_w]
    rfl
  refine inv_at [1, 2, 3, 4, 5, 6, 7, 8, 9, 10, 11, 12, 13, 14] (fun a0_ b a w' => ∃ (u_ : Value) (vS : Value) (GS1 : Nat) (GS2 : Nat) (m2_ : Value) (m5_ : Value) (m6_ : Value) (m7_ : Value) (m10_ : Value) (m11_ : Value), a = putSel a0_ b [(1, 28, .agg #[.slice A1 l.length c1]), (2, 29, m2_), (3, 30, .agg #[.int .i64 a_0, .int .i64 a_1, .int .i64 a_2, .int .i64 a_3, .int .i64 a_4, .int .i64 a_5, .int .i64 a_6, .int .i64 a_7, .int .i64 a_8, .bool a_9]), (4, 31, .agg #[.int .i64 a_0, .int .i64 a_1, .int .i64 a_2, .int .i64 a_3, .int .i64 a_4, .int .i64 a_5, .int .i64 a_6, .int .i64 a_7, .int .i64 a_8, .bool a_9]), (5, 32, m5_), (6, 26, m6_), (7, 33, m7_), (8, 34, .agg #[.int .i64 r_0, .int .i64 r_1, .int .i64 r_2, .int .i64 r_3, .int .i64 r_4, .int .i64 r_5, .int .i64 r_6, .int .i64 r_7, .int .i64 r_8, .bool r_9]), (9, 35, .bool q), (10, 8, m10_), (11, 9, m11_), (14, 10, .bool q)] ∧ (Below w2.heap.size w2 w') ∧ (b 2 = true → Kd.R (Kd.int .i64) 3 w' w2.heap.size (fun _ => True) u_ l) ∧ (b 5 = true → Kd.R (Kd.int .i64) 3 w' w2.heap.size (fun _ => True) vS M) ∧ (b 10 = true → b 12 = false → w'.heap[GS1]? = some (.cells #[.slice none 0 0] 29 (0, 0))) ∧ (b 10 = true → w2.heap.size ≤ GS1) ∧ (b 11 = true → b 13 = false → w'.heap[GS2]? = some (.cells #[.int .i64 0, .int .i64 0, .int .i64 0, .int .i64 0, .int .i64 0, .int .i64 0, .int .i64 0, .int .i64 0, .int .i64 0, .bool false] 23 (0, 0))) ∧ (b 11 = true → w2.heap.size ≤ GS2) ∧ (b 12 = true → w'.heap[GS1]? = some (.cells #[vS] 29 (0, 0))) ∧ (b 13 = true → w'.heap[GS2]? = some (.cells #[.int .i64 r_0, .int .i64 r_1, .int .i64 r_2, .int .i64 r_3, .int .i64 r_4, .int .i64 r_5, .int .i64 r_6, .int .i64 r_7, .int .i64 r_8, .bool r_9] 23 (0, 0))) ∧ (b 2 = true → (m2_ : Value) = .agg #[u_]) ∧ (b 5 = true → (m5_ : Value) = .tuple #[.agg #[vS], .agg #[.int .i64 r_0, .int .i64 r_1, .int .i64 r_2, .int .i64 r_3, .int .i64 r_4, .int .i64 r_5, .int .i64 r_6, .int .i64 r_7, .int .i64 r_8, .bool r_9], .bool q]) ∧ (b 6 = true → (m6_ : Value) = .tuple #[.agg #[vS], .agg #[.int .i64 r_0, .int .i64 r_1, .int .i64 r_2, .int .i64 r_3, .int .i64 r_4, .int .i64 r_5, .int .i64 r_6, .int .i64 r_7, .int .i64 r_8, .bool r_9], .bool q]) ∧ (b 7 = true → (m7_ : Value) = .agg #[vS]) ∧ (b 10 = true → (m10_ : Value) = .pointer (some ⟨GS1, 0, none⟩)) ∧ (b 11 = true → (m11_ : Value) = .pointer (some ⟨GS2, 0, none⟩))) HT_.out HW_.out (by kernel_rfl) (by kernel_rfl) ?_ ?_ ?_
  · exact ⟨.bool false, .bool false, 0, 0, .bool false, .bool false, .bool false, .bool false, .bool false, .bool false, by simp only [putSel, Bool.false_eq_true, if_false], D.out, fun h_ => absurd h_ (by decide), fun h_ => absurd h_ (by decide), fun h_ => absurd h_ (by decide), fun h_ => absurd h_ (by decide), fun h_ => absurd h_ (by decide), fun h_ => absurd h_ (by decide), fun h_ => absurd h_ (by decide), fun h_ => absurd h_ (by decide), fun h_ => absurd h_ (by decide), fun h_ => absurd h_ (by decide), fun h_ => absurd h_ (by decide), fun h_ => absurd h_ (by decide), fun h_ => absurd h_ (by decide), fun h_ => absurd h_ (by decide)⟩
  · skip
    clear D
    refine steps_cons ?_ ?_
    · rintro b a w' ⟨u_, vS, GS1, GS2, m2_, m5_, m6_, m7_, m10_, m11_, ha, Q_D, Q_RM, Q_RV, Q_K1, Q_N1, Q_K2, Q_N2, Q_E1, Q_E2, Q_X2_, Q_X5_, Q_X6_, Q_X7_, Q_X10_, Q_X11_⟩ hb_ hon hoff
      refine ⟨_, rfl, fun K hK => ?_⟩
      have e4 : a.tmps[4]? = some (.pointer (some ⟨w.heap.size, 0, none⟩)) := by rw [ha]; exact (putSel_off rfl).trans rfl
      replace ha := Aside0.mk ha
      have D := Aside0.mk Q_D
      have hc0_ : w'.cell? ⟨w.heap.size, 0, none⟩ = some (.slice A1 l.length c1) := (blk_cell (blk_below B4.out D.out) 0).trans rfl
      refine value_ (w1 := w') (v := .agg #[.slice A1 l.length c1]) (by rfl) rfl ?_ ?_
      · go_simp
        (try simp only [i64_w])
        try rfl
      refine hK.out _ _ ⟨u_, vS, GS1, GS2, m2_, m5_, m6_, m7_, m10_, m11_, (by rw [ha.out]; exact putSel_upk 0 hb_ rfl rfl rfl), Q_D, fun h0_ => absurd ((hoff 2 (by kernel_rfl)).symm.trans h0_) (by decide), fun h0_ => absurd ((hoff 5 (by kernel_rfl)).symm.trans h0_) (by decide), Q_K1, Q_N1, Q_K2, Q_N2, fun h0_ => absurd ((hoff 12 (by kernel_rfl)).symm.trans h0_) (by decide), fun h0_ => absurd ((hoff 13 (by kernel_rfl)).symm.trans h0_) (by decide), fun h0_ => absurd ((hoff 2 (by kernel_rfl)).symm.trans h0_) (by decide), fun h0_ => absurd ((hoff 5 (by kernel_rfl)).symm.trans h0_) (by decide), fun h0_ => absurd ((hoff 6 (by kernel_rfl)).symm.trans h0_) (by decide), fun h0_ => absurd ((hoff 7 (by kernel_rfl)).symm.trans h0_) (by decide), Q_X10_, Q_X11_⟩
    refine steps_cons ?_ ?_
    · rintro b a w' ⟨u_, vS, GS1, GS2, m2_, m5_, m6_, m7_, m10_, m11_, ha, Q_D, Q_RM, Q_RV, Q_K1, Q_N1, Q_K2, Q_N2, Q_E1, Q_E2, Q_X2_, Q_X5_, Q_X6_, Q_X7_, Q_X10_, Q_X11_⟩ hb_ hon hoff
      refine ⟨_, rfl, fun K hK => ?_⟩
      have e28 : a.tmps[28]? = some (.agg #[.slice A1 l.length c1]) := by rw [ha]; exact putSel_on (e := (1, 28, .agg #[.slice A1 l.length c1])) 0 rfl rfl (hon 1 (by kernel_rfl)) rfl
      replace ha := Aside0.mk ha
      have D := Aside0.mk Q_D
      refine goes_ Try.func25 (by kernel_rfl) rfl #[.agg #[.slice A1 l.length c1]] (by rfl) rfl rfl (by first | (simp only [List.map_toArray, List.map_cons, List.map_nil, Act.eval, Array.getD_eq_getD_getElem?, Option.getD_some, e28]; done) | (simp only [List.map_toArray, List.map_cons, List.map_nil, Act.eval, Array.getD_eq_getD_getElem?, Option.getD_some, e28]; rfl)) ?_
      with_reducible refine (laws_toMem.calls k _ _ l l _ ?side1 ?side2 P2.out).mono ?_
      (case side1 => exact Kd.C_below HR.out (below_step HB.out D.out))
      (case side2 => exact HC.out)
      rintro e w2_ ⟨u_, rfl, ho0, hb⟩
      refine ⟨_, rfl, ?_⟩
      refine hK.out _ _ ⟨u_, vS, GS1, GS2, (.agg #[u_]), m5_, m6_, m7_, m10_, m11_, (by rw [ha.out]; exact putSel_upk 1 hb_ rfl rfl rfl), below_step D.out hb, fun _ => Kd.R_lower ho0 D.out.size, fun h0_ => absurd ((hoff 5 (by kernel_rfl)).symm.trans h0_) (by decide), fun h0_ h1_ => blk_below (Q_K1 h0_ h1_) hb, Q_N1, fun h0_ h1_ => blk_below (Q_K2 h0_ h1_) hb, Q_N2, fun h0_ => absurd ((hoff 12 (by kernel_rfl)).symm.trans h0_) (by decide), fun h0_ => absurd ((hoff 13 (by kernel_rfl)).symm.trans h0_) (by decide), fun _ => rfl, fun h0_ => absurd ((hoff 5 (by kernel_rfl)).symm.trans h0_) (by decide), fun h0_ => absurd ((hoff 6 (by kernel_rfl)).symm.trans h0_) (by decide), fun h0_ => absurd ((hoff 7 (by kernel_rfl)).symm.trans h0_) (by decide), Q_X10_, Q_X11_⟩
    refine steps_cons ?_ ?_
    · rintro b a w' ⟨u_, vS, GS1, GS2, m2_, m5_, m6_, m7_, m10_, m11_, ha, Q_D, Q_RM, Q_RV, Q_K1, Q_N1, Q_K2, Q_N2, Q_E1, Q_E2, Q_X2_, Q_X5_, Q_X6_, Q_X7_, Q_X10_, Q_X11_⟩ hb_ hon hoff
      refine ⟨_, rfl, fun K hK => ?_⟩
      have e5 : a.tmps[5]? = some (.pointer (some ⟨(w.heap.size + 1), 0, none⟩)) := by rw [ha]; exact (putSel_off rfl).trans rfl
      replace ha := Aside0.mk ha
      have D := Aside0.mk Q_D
      have hc0_ : w'.cell? ⟨(w.heap.size + 1), 0, none⟩ = some (.int .i64 a_0) := (blk_cell (blk_below B5.out D.out) 0).trans rfl
      have hc1_ : w'.cell? ⟨(w.heap.size + 1), 1, none⟩ = some (.int .i64 a_1) := (blk_cell (blk_below B5.out D.out) 1).trans rfl
      have hc2_ : w'.cell? ⟨(w.heap.size + 1), 2, none⟩ = some (.int .i64 a_2) := (blk_cell (blk_below B5.out D.out) 2).trans rfl
      have hc3_ : w'.cell? ⟨(w.heap.size + 1), 3, none⟩ = some (.int .i64 a_3) := (blk_cell (blk_below B5.out D.out) 3).trans rfl
      have hc4_ : w'.cell? ⟨(w.heap.size + 1), 4, none⟩ = some (.int .i64 a_4) := (blk_cell (blk_below B5.out D.out) 4).trans rfl
      have hc5_ : w'.cell? ⟨(w.heap.size + 1), 5, none⟩ = some (.int .i64 a_5) := (blk_cell (blk_below B5.out D.out) 5).trans rfl
      have hc6_ : w'.cell? ⟨(w.heap.size + 1), 6, none⟩ = some (.int .i64 a_6) := (blk_cell (blk_below B5.out D.out) 6).trans rfl
      have hc7_ : w'.cell? ⟨(w.heap.size + 1), 7, none⟩ = some (.int .i64 a_7) := (blk_cell (blk_below B5.out D.out) 7).trans rfl
      have hc8_ : w'.cell? ⟨(w.heap.size + 1), 8, none⟩ = some (.int .i64 a_8) := (blk_cell (blk_below B5.out D.out) 8).trans rfl
      have hc9_ : w'.cell? ⟨(w.heap.size + 1), 9, none⟩ = some (.bool a_9) := (blk_cell (blk_below B5.out D.out) 9).trans rfl
      refine value_ (w1 := w') (v := .agg #[.int .i64 a_0, .int .i64 a_1, .int .i64 a_2, .int .i64 a_3, .int .i64 a_4, .int .i64 a_5, .int .i64 a_6, .int .i64 a_7, .int .i64 a_8, .bool a_9]) (by rfl) rfl ?_ ?_
      · go_simp
        (try simp only [i64_w])
        try rfl
      refine hK.out _ _ ⟨u_, vS, GS1, GS2, m2_, m5_, m6_, m7_, m10_, m11_, (by rw [ha.out]; exact putSel_upk 2 hb_ rfl rfl rfl), Q_D, Q_RM, fun h0_ => absurd ((hoff 5 (by kernel_rfl)).symm.trans h0_) (by decide), Q_K1, Q_N1, Q_K2, Q_N2, fun h0_ => absurd ((hoff 12 (by kernel_rfl)).symm.trans h0_) (by decide), fun h0_ => absurd ((hoff 13 (by kernel_rfl)).symm.trans h0_) (by decide), Q_X2_, fun h0_ => absurd ((hoff 5 (by kernel_rfl)).symm.trans h0_) (by decide), fun h0_ => absurd ((hoff 6 (by kernel_rfl)).symm.trans h0_) (by decide), fun h0_ => absurd ((hoff 7 (by kernel_rfl)).symm.trans h0_) (by decide), Q_X10_, Q_X11_⟩
    refine steps_cons ?_ ?_
    · rintro b a w' ⟨u_, vS, GS1, GS2, m2_, m5_, m6_, m7_, m10_, m11_, ha, Q_D, Q_RM, Q_RV, Q_K1, Q_N1, Q_K2, Q_N2, Q_E1, Q_E2, Q_X2_, Q_X5_, Q_X6_, Q_X7_, Q_X10_, Q_X11_⟩ hb_ hon hoff
      refine ⟨_, rfl, fun K hK => ?_⟩
      have e30 : a.tmps[30]? = some (.agg #[.int .i64 a_0, .int .i64 a_1, .int .i64 a_2, .int .i64 a_3, .int .i64 a_4, .int .i64 a_5, .int .i64 a_6, .int .i64 a_7, .int .i64 a_8, .bool a_9]) := by rw [ha]; exact putSel_on (e := (3, 30, .agg #[.int .i64 a_0, .int .i64 a_1, .int .i64 a_2, .int .i64 a_3, .int .i64 a_4, .int .i64 a_5, .int .i64 a_6, .int .i64 a_7, .int .i64 a_8, .bool a_9])) 2 rfl rfl (hon 3 (by kernel_rfl)) rfl
      replace ha := Aside0.mk ha
      have D := Aside0.mk Q_D
      refine goes_ Try.func20 (by kernel_rfl) rfl #[.agg #[.int .i64 a_0, .int .i64 a_1, .int .i64 a_2, .int .i64 a_3, .int .i64 a_4, .int .i64 a_5, .int .i64 a_6, .int .i64 a_7, .int .i64 a_8, .bool a_9]] (by rfl) rfl rfl (by first | (simp only [List.map_toArray, List.map_cons, List.map_nil, Act.eval, Array.getD_eq_getD_getElem?, Option.getD_some, e30]; done) | (simp only [List.map_toArray, List.map_cons, List.map_nil, Act.eval, Array.getD_eq_getD_getElem?, Option.getD_some, e30]; rfl)) ?_
      with_reducible refine (laws_toCall.calls a_0 a_1 a_2 a_3 a_4 a_5 a_6 a_7 a_8 a_9 a_0 a_1 a_2 a_3 a_4 a_5 a_6 a_7 a_8 a_9 _ P0.out).mono ?_
      rintro e w2_ ⟨rfl, hb⟩
      refine ⟨_, rfl, ?_⟩
      refine hK.out _ _ ⟨u_, vS, GS1, GS2, m2_, m5_, m6_, m7_, m10_, m11_, (by rw [ha.out]; exact putSel_upk 3 hb_ rfl rfl rfl), below_step D.out hb, fun h0_ => Kd.R_below (Q_RM h0_) hb, fun h0_ => absurd ((hoff 5 (by kernel_rfl)).symm.trans h0_) (by decide), fun h0_ h1_ => blk_below (Q_K1 h0_ h1_) hb, Q_N1, fun h0_ h1_ => blk_below (Q_K2 h0_ h1_) hb, Q_N2, fun h0_ => absurd ((hoff 12 (by kernel_rfl)).symm.trans h0_) (by decide), fun h0_ => absurd ((hoff 13 (by kernel_rfl)).symm.trans h0_) (by decide), Q_X2_, fun h0_ => absurd ((hoff 5 (by kernel_rfl)).symm.trans h0_) (by decide), fun h0_ => absurd ((hoff 6 (by kernel_rfl)).symm.trans h0_) (by decide), fun h0_ => absurd ((hoff 7 (by kernel_rfl)).symm.trans h0_) (by decide), Q_X10_, Q_X11_⟩
    refine steps_cons ?_ ?_
    · rintro b a w' ⟨u_, vS, GS1, GS2, m2_, m5_, m6_, m7_, m10_, m11_, ha, Q_D, Q_RM, Q_RV, Q_K1, Q_N1, Q_K2, Q_N2, Q_E1, Q_E2, Q_X2_, Q_X5_, Q_X6_, Q_X7_, Q_X10_, Q_X11_⟩ hb_ hon hoff
      refine ⟨_, rfl, fun K hK => ?_⟩
      have e27 : a.tmps[27]? = some (.int .i64 n) := by rw [ha]; exact (putSel_off rfl).trans rfl
      have e29 : a.tmps[29]? = some (m2_) := by rw [ha]; exact putSel_on (e := (2, 29, m2_)) 1 rfl rfl (hon 2 (by kernel_rfl)) rfl
      rw [Q_X2_ (hon 2 (by kernel_rfl))] at e29
      have e31 : a.tmps[31]? = some (.agg #[.int .i64 a_0, .int .i64 a_1, .int .i64 a_2, .int .i64 a_3, .int .i64 a_4, .int .i64 a_5, .int .i64 a_6, .int .i64 a_7, .int .i64 a_8, .bool a_9]) := by rw [ha]; exact putSel_on (e := (4, 31, .agg #[.int .i64 a_0, .int .i64 a_1, .int .i64 a_2, .int .i64 a_3, .int .i64 a_4, .int .i64 a_5, .int .i64 a_6, .int .i64 a_7, .int .i64 a_8, .bool a_9])) 3 rfl rfl (hon 4 (by kernel_rfl)) rfl
      replace ha := Aside0.mk ha
      have D := Aside0.mk Q_D
      have RM := Aside0.mk (Q_RM (hon 2 (by kernel_rfl)))
      obtain ⟨Am_, cm_, em_⟩ := Kd.R_slice RM.out
      subst em_
      refine goes_ Try.func24 (by kernel_rfl) rfl #[.int .i64 n, .agg #[.slice Am_ l.length cm_], .agg #[.int .i64 a_0, .int .i64 a_1, .int .i64 a_2, .int .i64 a_3, .int .i64 a_4, .int .i64 a_5, .int .i64 a_6, .int .i64 a_7, .int .i64 a_8, .bool a_9]] (by rfl) rfl rfl (by first | (simp only [List.map_toArray, List.map_cons, List.map_nil, Act.eval, Array.getD_eq_getD_getElem?, Option.getD_some, e27, e29, e31]; done) | (simp only [List.map_toArray, List.map_cons, List.map_nil, Act.eval, Array.getD_eq_getD_getElem?, Option.getD_some, e27, e29, e31]; rfl)) ?_
      with_reducible refine (spec_LiStep.calls k n _ _ l a_0 a_1 a_2 a_3 a_4 a_5 a_6 a_7 a_8 a_9 M r_0 r_1 r_2 r_3 r_4 r_5 r_6 r_7 r_8 r_9 q _ ?side1 ?side2 P3.out).mono ?_
      (case side1 => exact (Kd.R_reads' RM.out).2.2)
      (case side2 => exact (Kd.R_reads' RM.out).2.1)
      rintro e w2_ ⟨vS, rfl, ho0, hb⟩
      refine ⟨_, rfl, ?_⟩
      refine hK.out _ _ ⟨.slice Am_ l.length cm_, vS, GS1, GS2, m2_, (.tuple #[.agg #[vS], .agg #[.int .i64 r_0, .int .i64 r_1, .int .i64 r_2, .int .i64 r_3, .int .i64 r_4, .int .i64 r_5, .int .i64 r_6, .int .i64 r_7, .int .i64 r_8, .bool r_9], .bool q]), m6_, m7_, m10_, m11_, (by rw [ha.out]; exact putSel_upk 4 hb_ rfl rfl rfl), below_step D.out hb, fun _ => Kd.R_below RM.out hb, fun _ => Kd.R_lower ho0 D.out.size, fun h0_ h1_ => blk_below (Q_K1 h0_ h1_) hb, Q_N1, fun h0_ h1_ => blk_below (Q_K2 h0_ h1_) hb, Q_N2, fun h0_ => absurd ((hoff 12 (by kernel_rfl)).symm.trans h0_) (by decide), fun h0_ => absurd ((hoff 13 (by kernel_rfl)).symm.trans h0_) (by decide), Q_X2_, fun _ => rfl, fun h0_ => absurd ((hoff 6 (by kernel_rfl)).symm.trans h0_) (by decide), fun h0_ => absurd ((hoff 7 (by kernel_rfl)).symm.trans h0_) (by decide), Q_X10_, Q_X11_⟩
    refine steps_cons ?_ ?_
    · rintro b a w' ⟨u_, vS, GS1, GS2, m2_, m5_, m6_, m7_, m10_, m11_, ha, Q_D, Q_RM, Q_RV, Q_K1, Q_N1, Q_K2, Q_N2, Q_E1, Q_E2, Q_X2_, Q_X5_, Q_X6_, Q_X7_, Q_X10_, Q_X11_⟩ hb_ hon hoff
      refine ⟨_, rfl, fun K hK => ?_⟩
      have e32 : a.tmps[32]? = some (m5_) := by rw [ha]; exact putSel_on (e := (5, 32, m5_)) 4 rfl rfl (hon 5 (by kernel_rfl)) rfl
      rw [Q_X5_ (hon 5 (by kernel_rfl))] at e32
      replace ha := Aside0.mk ha
      have D := Aside0.mk Q_D
      have RM := Aside0.mk (Q_RM (hon 2 (by kernel_rfl)))
      have RV := Aside0.mk (Q_RV (hon 5 (by kernel_rfl)))
      refine value_ (w1 := w') (v := .tuple #[.agg #[vS], .agg #[.int .i64 r_0, .int .i64 r_1, .int .i64 r_2, .int .i64 r_3, .int .i64 r_4, .int .i64 r_5, .int .i64 r_6, .int .i64 r_7, .int .i64 r_8, .bool r_9], .bool q]) (by rfl) rfl ?_ ?_
      · go_simp
        (try simp only [i64_w])
        try rfl
      refine hK.out _ _ ⟨u_, vS, GS1, GS2, m2_, m5_, (.tuple #[.agg #[vS], .agg #[.int .i64 r_0, .int .i64 r_1, .int .i64 r_2, .int .i64 r_3, .int .i64 r_4, .int .i64 r_5, .int .i64 r_6, .int .i64 r_7, .int .i64 r_8, .bool r_9], .bool q]), m7_, m10_, m11_, (by rw [ha.out]; exact putSel_upk 5 hb_ rfl rfl rfl), Q_D, Q_RM, Q_RV, Q_K1, Q_N1, Q_K2, Q_N2, fun h0_ => absurd ((hoff 12 (by kernel_rfl)).symm.trans h0_) (by decide), fun h0_ => absurd ((hoff 13 (by kernel_rfl)).symm.trans h0_) (by decide), Q_X2_, Q_X5_, fun _ => rfl, fun h0_ => absurd ((hoff 7 (by kernel_rfl)).symm.trans h0_) (by decide), Q_X10_, Q_X11_⟩
    refine steps_cons ?_ ?_
    · rintro b a w' ⟨u_, vS, GS1, GS2, m2_, m5_, m6_, m7_, m10_, m11_, ha, Q_D, Q_RM, Q_RV, Q_K1, Q_N1, Q_K2, Q_N2, Q_E1, Q_E2, Q_X2_, Q_X5_, Q_X6_, Q_X7_, Q_X10_, Q_X11_⟩ hb_ hon hoff
      refine ⟨_, rfl, fun K hK => ?_⟩
      have e26 : a.tmps[26]? = some (m6_) := by rw [ha]; exact putSel_on (e := (6, 26, m6_)) 5 rfl rfl (hon 6 (by kernel_rfl)) rfl
      rw [Q_X6_ (hon 6 (by kernel_rfl))] at e26
      replace ha := Aside0.mk ha
      have D := Aside0.mk Q_D
      have RM := Aside0.mk (Q_RM (hon 2 (by kernel_rfl)))
      have RV := Aside0.mk (Q_RV (hon 5 (by kernel_rfl)))
      refine value_ (w1 := w') (v := .agg #[vS]) (by rfl) rfl ?_ ?_
      · go_simp
        (try simp only [i64_w])
        try rfl
      refine hK.out _ _ ⟨u_, vS, GS1, GS2, m2_, m5_, m6_, (.agg #[vS]), m10_, m11_, (by rw [ha.out]; exact putSel_upk 6 hb_ rfl rfl rfl), Q_D, Q_RM, Q_RV, Q_K1, Q_N1, Q_K2, Q_N2, fun h0_ => absurd ((hoff 12 (by kernel_rfl)).symm.trans h0_) (by decide), Q_E2, Q_X2_, Q_X5_, Q_X6_, fun _ => rfl, Q_X10_, Q_X11_⟩
    refine steps_cons ?_ ?_
    · rintro b a w' ⟨u_, vS, GS1, GS2, m2_, m5_, m6_, m7_, m10_, m11_, ha, Q_D, Q_RM, Q_RV, Q_K1, Q_N1, Q_K2, Q_N2, Q_E1, Q_E2, Q_X2_, Q_X5_, Q_X6_, Q_X7_, Q_X10_, Q_X11_⟩ hb_ hon hoff
      refine ⟨_, rfl, fun K hK => ?_⟩
      have e26 : a.tmps[26]? = some (m6_) := by rw [ha]; exact putSel_on (e := (6, 26, m6_)) 5 rfl rfl (hon 6 (by kernel_rfl)) rfl
      rw [Q_X6_ (hon 6 (by kernel_rfl))] at e26
      replace ha := Aside0.mk ha
      have D := Aside0.mk Q_D
      have RM := Aside0.mk (Q_RM (hon 2 (by kernel_rfl)))
      have RV := Aside0.mk (Q_RV (hon 5 (by kernel_rfl)))
      refine value_ (w1 := w') (v := .agg #[.int .i64 r_0, .int .i64 r_1, .int .i64 r_2, .int .i64 r_3, .int .i64 r_4, .int .i64 r_5, .int .i64 r_6, .int .i64 r_7, .int .i64 r_8, .bool r_9]) (by rfl) rfl ?_ ?_
      · go_simp
        (try simp only [i64_w])
        try rfl
      refine hK.out _ _ ⟨u_, vS, GS1, GS2, m2_, m5_, m6_, m7_, m10_, m11_, (by rw [ha.out]; exact putSel_upk 7 hb_ rfl rfl rfl), Q_D, Q_RM, Q_RV, Q_K1, Q_N1, Q_K2, Q_N2, Q_E1, fun h0_ => absurd ((hoff 13 (by kernel_rfl)).symm.trans h0_) (by decide), Q_X2_, Q_X5_, Q_X6_, Q_X7_, Q_X10_, Q_X11_⟩
    refine steps_cons ?_ ?_
    · rintro b a w' ⟨u_, vS, GS1, GS2, m2_, m5_, m6_, m7_, m10_, m11_, ha, Q_D, Q_RM, Q_RV, Q_K1, Q_N1, Q_K2, Q_N2, Q_E1, Q_E2, Q_X2_, Q_X5_, Q_X6_, Q_X7_, Q_X10_, Q_X11_⟩ hb_ hon hoff
      refine ⟨_, rfl, fun K hK => ?_⟩
      have e26 : a.tmps[26]? = some (m6_) := by rw [ha]; exact putSel_on (e := (6, 26, m6_)) 5 rfl rfl (hon 6 (by kernel_rfl)) rfl
      rw [Q_X6_ (hon 6 (by kernel_rfl))] at e26
      replace ha := Aside0.mk ha
      have D := Aside0.mk Q_D
      have RM := Aside0.mk (Q_RM (hon 2 (by kernel_rfl)))
      have RV := Aside0.mk (Q_RV (hon 5 (by kernel_rfl)))
      refine value_ (w1 := w') (v := .bool q) (by rfl) rfl ?_ ?_
      · go_simp
        (try simp only [i64_w])
        try rfl
      refine hK.out _ _ ⟨u_, vS, GS1, GS2, m2_, m5_, m6_, m7_, m10_, m11_, (by rw [ha.out]; exact putSel_upk 8 hb_ rfl rfl rfl), Q_D, Q_RM, Q_RV, Q_K1, Q_N1, Q_K2, Q_N2, Q_E1, Q_E2, Q_X2_, Q_X5_, Q_X6_, Q_X7_, Q_X10_, Q_X11_⟩
    refine steps_cons ?_ ?_
    · rintro b a w' ⟨u_, vS, GS1, GS2, m2_, m5_, m6_, m7_, m10_, m11_, ha, Q_D, Q_RM, Q_RV, Q_K1, Q_N1, Q_K2, Q_N2, Q_E1, Q_E2, Q_X2_, Q_X5_, Q_X6_, Q_X7_, Q_X10_, Q_X11_⟩ hb_ hon hoff
      refine ⟨_, rfl, fun K hK => ?_⟩
      replace ha := Aside0.mk ha
      have D := Aside0.mk Q_D
      refine box_step ?hg (N := 8) ?hd (cs := #[.slice none 0 0]) (t := 29) ?hr ?_; (case hd => rfl); (case hg => rfl); (case hr => first | (go_simp; done) | (go_simp; rfl))
      intro GS1 hg w2_ hbox hb
      refine hK.out _ _ ⟨u_, vS, GS1, GS2, m2_, m5_, m6_, m7_, (.pointer (some ⟨GS1, 0, none⟩)), m11_, (by rw [ha.out]; exact putSel_upk 9 hb_ rfl rfl rfl), below_step D.out hb, fun h0_ => Kd.R_below (Q_RM h0_) hb, fun h0_ => Kd.R_below (Q_RV h0_) hb, fun _ _ => hbox, fun _ => (by rw [hg]; exact D.out.size), fun h0_ h1_ => blk_below (Q_K2 h0_ h1_) hb, Q_N2, fun h0_ => absurd ((hoff 12 (by kernel_rfl)).symm.trans h0_) (by decide), fun h0_ => blk_below (Q_E2 h0_) hb, Q_X2_, Q_X5_, Q_X6_, Q_X7_, fun _ => rfl, Q_X11_⟩
    refine steps_cons ?_ ?_
    · rintro b a w' ⟨u_, vS, GS1, GS2, m2_, m5_, m6_, m7_, m10_, m11_, ha, Q_D, Q_RM, Q_RV, Q_K1, Q_N1, Q_K2, Q_N2, Q_E1, Q_E2, Q_X2_, Q_X5_, Q_X6_, Q_X7_, Q_X10_, Q_X11_⟩ hb_ hon hoff
      refine ⟨_, rfl, fun K hK => ?_⟩
      replace ha := Aside0.mk ha
      have D := Aside0.mk Q_D
      refine box_step ?hg (N := 9) ?hd (cs := #[.int .i64 0, .int .i64 0, .int .i64 0, .int .i64 0, .int .i64 0, .int .i64 0, .int .i64 0, .int .i64 0, .int .i64 0, .bool false]) (t := 23) ?hr ?_; (case hd => rfl); (case hg => rfl); (case hr => first | (go_simp; done) | (go_simp; rfl))
      intro GS2 hg w2_ hbox hb
      refine hK.out _ _ ⟨u_, vS, GS1, GS2, m2_, m5_, m6_, m7_, m10_, (.pointer (some ⟨GS2, 0, none⟩)), (by rw [ha.out]; exact putSel_upk 10 hb_ rfl rfl rfl), below_step D.out hb, fun h0_ => Kd.R_below (Q_RM h0_) hb, fun h0_ => Kd.R_below (Q_RV h0_) hb, fun h0_ h1_ => blk_below (Q_K1 h0_ h1_) hb, Q_N1, fun _ _ => hbox, fun _ => (by rw [hg]; exact D.out.size), fun h0_ => blk_below (Q_E1 h0_) hb, fun h0_ => absurd ((hoff 13 (by kernel_rfl)).symm.trans h0_) (by decide), Q_X2_, Q_X5_, Q_X6_, Q_X7_, Q_X10_, fun _ => rfl⟩
    refine steps_cons ?_ ?_
    · rintro b a w' ⟨u_, vS, GS1, GS2, m2_, m5_, m6_, m7_, m10_, m11_, ha, Q_D, Q_RM, Q_RV, Q_K1, Q_N1, Q_K2, Q_N2, Q_E1, Q_E2, Q_X2_, Q_X5_, Q_X6_, Q_X7_, Q_X10_, Q_X11_⟩ hb_ hon hoff
      refine ⟨_, rfl, fun K hK => ?_⟩
      have e8 : a.tmps[8]? = some (m10_) := by rw [ha]; exact putSel_on (e := (10, 8, m10_)) 9 rfl rfl (hon 10 (by kernel_rfl)) rfl
      rw [Q_X10_ (hon 10 (by kernel_rfl))] at e8
      have e33 : a.tmps[33]? = some (m7_) := by rw [ha]; exact putSel_on (e := (7, 33, m7_)) 6 rfl rfl (hon 7 (by kernel_rfl)) rfl
      rw [Q_X7_ (hon 7 (by kernel_rfl))] at e33
      replace ha := Aside0.mk ha
      have D := Aside0.mk Q_D
      have RM := Aside0.mk (Q_RM (hon 2 (by kernel_rfl)))
      have RV := Aside0.mk (Q_RV (hon 5 (by kernel_rfl)))
      have K1 := Aside0.mk (Q_K1 (hon 10 (by kernel_rfl)) hb_)
      have N1 := Aside0.mk (Q_N1 (hon 10 (by kernel_rfl)))
      obtain ⟨Av_, cv_, ev_⟩ := Kd.R_slice RV.out
      subst ev_
      have hs0_ : w'.cell? ⟨GS1, 0, none⟩ = some (.slice none 0 0) := (blk_cell K1.out 0).trans rfl
      have hz0_ := blk_frozen K1.out 0
      have hst_ := Aside0.mk (show ∀ k, k ≠ GS1 → ((w'.setCell ⟨GS1, 0, none⟩ (.slice Av_ M.length cv_))).heap[k]? = w'.heap[k]? from by (with_reducible apply set_step_); exact fun _ _ => rfl)
      have hnew_ := Aside0.mk (show ((w'.setCell ⟨GS1, 0, none⟩ (.slice Av_ M.length cv_))).heap[GS1]? = some (.cells #[.slice Av_ M.length cv_] 29 (0, 0)) from by have h1_ := blk_set K1.out 0 (.slice Av_ M.length cv_); simpa using h1_)
      refine skip_ (w1 := ?_) (by rfl) rfl ?_ ?_
      rotate_left
      · go_simp
        rfl
      refine hK.out _ _ ⟨u_, .slice Av_ M.length cv_, GS1, GS2, m2_, m5_, m6_, m7_, m10_, m11_, (by rw [ha.out]; exact putSel_none (v := undef) rfl), (by repeat (with_reducible first | exact D.out | refine below_set ?_ N1.out)), fun _ => R_sets_ RM.out K1.out (by decide) hst_.out, fun _ => R_sets_ RV.out K1.out (by decide) hst_.out, fun _ h1_ => absurd ((up_self b 12).symm.trans h1_) (by decide), Q_N1, fun h0_ h1_ => (hst_.out _ (ne_t_ (Q_K2 h0_ h1_) K1.out (by decide))).trans (Q_K2 h0_ h1_), Q_N2, fun _ => hnew_.out, fun h0_ => (hst_.out _ (ne_t_ (Q_E2 h0_) K1.out (by decide))).trans (Q_E2 h0_), Q_X2_, Q_X5_, Q_X6_, Q_X7_, Q_X10_, Q_X11_⟩
    refine steps_cons ?_ ?_
    · rintro b a w' ⟨u_, vS, GS1, GS2, m2_, m5_, m6_, m7_, m10_, m11_, ha, Q_D, Q_RM, Q_RV, Q_K1, Q_N1, Q_K2, Q_N2, Q_E1, Q_E2, Q_X2_, Q_X5_, Q_X6_, Q_X7_, Q_X10_, Q_X11_⟩ hb_ hon hoff
      refine ⟨_, rfl, fun K hK => ?_⟩
      have e9 : a.tmps[9]? = some (m11_) := by rw [ha]; exact putSel_on (e := (11, 9, m11_)) 10 rfl rfl (hon 11 (by kernel_rfl)) rfl
      rw [Q_X11_ (hon 11 (by kernel_rfl))] at e9
      have e34 : a.tmps[34]? = some (.agg #[.int .i64 r_0, .int .i64 r_1, .int .i64 r_2, .int .i64 r_3, .int .i64 r_4, .int .i64 r_5, .int .i64 r_6, .int .i64 r_7, .int .i64 r_8, .bool r_9]) := by rw [ha]; exact putSel_on (e := (8, 34, .agg #[.int .i64 r_0, .int .i64 r_1, .int .i64 r_2, .int .i64 r_3, .int .i64 r_4, .int .i64 r_5, .int .i64 r_6, .int .i64 r_7, .int .i64 r_8, .bool r_9])) 7 rfl rfl (hon 8 (by kernel_rfl)) rfl
      replace ha := Aside0.mk ha
      have D := Aside0.mk Q_D
      have RM := Aside0.mk (Q_RM (hon 2 (by kernel_rfl)))
      have RV := Aside0.mk (Q_RV (hon 5 (by kernel_rfl)))
      have K2 := Aside0.mk (Q_K2 (hon 11 (by kernel_rfl)) hb_)
      have N2 := Aside0.mk (Q_N2 (hon 11 (by kernel_rfl)))
      have hs0_ : w'.cell? ⟨GS2, 0, none⟩ = some (.int .i64 0) := (blk_cell K2.out 0).trans rfl
      have hs1_ : w'.cell? ⟨GS2, 1, none⟩ = some (.int .i64 0) := (blk_cell K2.out 1).trans rfl
      have hs2_ : w'.cell? ⟨GS2, 2, none⟩ = some (.int .i64 0) := (blk_cell K2.out 2).trans rfl
      have hs3_ : w'.cell? ⟨GS2, 3, none⟩ = some (.int .i64 0) := (blk_cell K2.out 3).trans rfl
      have hs4_ : w'.cell? ⟨GS2, 4, none⟩ = some (.int .i64 0) := (blk_cell K2.out 4).trans rfl
      have hs5_ : w'.cell? ⟨GS2, 5, none⟩ = some (.int .i64 0) := (blk_cell K2.out 5).trans rfl
      have hs6_ : w'.cell? ⟨GS2, 6, none⟩ = some (.int .i64 0) := (blk_cell K2.out 6).trans rfl
      have hs7_ : w'.cell? ⟨GS2, 7, none⟩ = some (.int .i64 0) := (blk_cell K2.out 7).trans rfl
      have hs8_ : w'.cell? ⟨GS2, 8, none⟩ = some (.int .i64 0) := (blk_cell K2.out 8).trans rfl
      have hs9_ : w'.cell? ⟨GS2, 9, none⟩ = some (.bool false) := (blk_cell K2.out 9).trans rfl
      have hz0_ := blk_frozen K2.out 0
      have hz1_ := blk_frozen K2.out 1
      have hz2_ := blk_frozen K2.out 2
      have hz3_ := blk_frozen K2.out 3
      have hz4_ := blk_frozen K2.out 4
      have hz5_ := blk_frozen K2.out 5
      have hz6_ := blk_frozen K2.out 6
      have hz7_ := blk_frozen K2.out 7
      have hz8_ := blk_frozen K2.out 8
      have hz9_ := blk_frozen K2.out 9
      have hst_ := Aside0.mk (show ∀ k, k ≠ GS2 → (((((((((((w'.setCell ⟨GS2, 0, none⟩ (.int .i64 r_0)).setCell ⟨GS2, 1, none⟩ (.int .i64 r_1)).setCell ⟨GS2, 2, none⟩ (.int .i64 r_2)).setCell ⟨GS2, 3, none⟩ (.int .i64 r_3)).setCell ⟨GS2, 4, none⟩ (.int .i64 r_4)).setCell ⟨GS2, 5, none⟩ (.int .i64 r_5)).setCell ⟨GS2, 6, none⟩ (.int .i64 r_6)).setCell ⟨GS2, 7, none⟩ (.int .i64 r_7)).setCell ⟨GS2, 8, none⟩ (.int .i64 r_8)).setCell ⟨GS2, 9, none⟩ (.bool r_9))).heap[k]? = w'.heap[k]? from by (with_reducible apply set_step_); (with_reducible apply set_step_); (with_reducible apply set_step_); (with_reducible apply set_step_); (with_reducible apply set_step_); (with_reducible apply set_step_); (with_reducible apply set_step_); (with_reducible apply set_step_); (with_reducible apply set_step_); (with_reducible apply set_step_); exact fun _ _ => rfl)
      have hnew_ := Aside0.mk (show (((((((((((w'.setCell ⟨GS2, 0, none⟩ (.int .i64 r_0)).setCell ⟨GS2, 1, none⟩ (.int .i64 r_1)).setCell ⟨GS2, 2, none⟩ (.int .i64 r_2)).setCell ⟨GS2, 3, none⟩ (.int .i64 r_3)).setCell ⟨GS2, 4, none⟩ (.int .i64 r_4)).setCell ⟨GS2, 5, none⟩ (.int .i64 r_5)).setCell ⟨GS2, 6, none⟩ (.int .i64 r_6)).setCell ⟨GS2, 7, none⟩ (.int .i64 r_7)).setCell ⟨GS2, 8, none⟩ (.int .i64 r_8)).setCell ⟨GS2, 9, none⟩ (.bool r_9))).heap[GS2]? = some (.cells #[.int .i64 r_0, .int .i64 r_1, .int .i64 r_2, .int .i64 r_3, .int .i64 r_4, .int .i64 r_5, .int .i64 r_6, .int .i64 r_7, .int .i64 r_8, .bool r_9] 23 (0, 0)) from by have h1_ := blk_set K2.out 0 (.int .i64 r_0); have h2_ := blk_set h1_ 1 (.int .i64 r_1); have h3_ := blk_set h2_ 2 (.int .i64 r_2); have h4_ := blk_set h3_ 3 (.int .i64 r_3); have h5_ := blk_set h4_ 4 (.int .i64 r_4); have h6_ := blk_set h5_ 5 (.int .i64 r_5); have h7_ := blk_set h6_ 6 (.int .i64 r_6); have h8_ := blk_set h7_ 7 (.int .i64 r_7); have h9_ := blk_set h8_ 8 (.int .i64 r_8); have h10_ := blk_set h9_ 9 (.bool r_9); simpa using h10_)
      refine skip_ (w1 := ?_) (by rfl) rfl ?_ ?_
      rotate_left
      · go_simp
        rfl
      refine hK.out _ _ ⟨u_, vS, GS1, GS2, m2_, m5_, m6_, m7_, m10_, m11_, (by rw [ha.out]; exact putSel_none (v := undef) rfl), (by repeat (with_reducible first | exact D.out | refine below_set ?_ N2.out)), fun _ => R_sets_ RM.out K2.out (by decide) hst_.out, fun _ => R_sets_ RV.out K2.out (by decide) hst_.out, fun h0_ h1_ => (hst_.out _ (ne_t_ (Q_K1 h0_ h1_) K2.out (by decide))).trans (Q_K1 h0_ h1_), Q_N1, fun _ h1_ => absurd ((up_self b 13).symm.trans h1_) (by decide), Q_N2, fun h0_ => (hst_.out _ (ne_t_ (Q_E1 h0_) K2.out (by decide))).trans (Q_E1 h0_), fun _ => hnew_.out, Q_X2_, Q_X5_, Q_X6_, Q_X7_, Q_X10_, Q_X11_⟩
    refine steps_cons ?_ ?_
    · rintro b a w' ⟨u_, vS, GS1, GS2, m2_, m5_, m6_, m7_, m10_, m11_, ha, Q_D, Q_RM, Q_RV, Q_K1, Q_N1, Q_K2, Q_N2, Q_E1, Q_E2, Q_X2_, Q_X5_, Q_X6_, Q_X7_, Q_X10_, Q_X11_⟩ hb_ hon hoff
      refine ⟨_, rfl, fun K hK => ?_⟩
      have e35 : a.tmps[35]? = some (.bool q) := by rw [ha]; exact putSel_on (e := (9, 35, .bool q)) 8 rfl rfl (hon 9 (by kernel_rfl)) rfl
      replace ha := Aside0.mk ha
      have D := Aside0.mk Q_D
      have RM := Aside0.mk (Q_RM (hon 2 (by kernel_rfl)))
      have RV := Aside0.mk (Q_RV (hon 5 (by kernel_rfl)))
      refine value_ (w1 := w') (v := .bool q) (by rfl) rfl ?_ ?_
      · go_simp
        (try simp only [i64_w])
        try rfl
      refine hK.out _ _ ⟨u_, vS, GS1, GS2, m2_, m5_, m6_, m7_, m10_, m11_, (by rw [ha.out]; exact putSel_upk 11 hb_ rfl rfl rfl), Q_D, Q_RM, Q_RV, Q_K1, Q_N1, Q_K2, Q_N2, Q_E1, Q_E2, Q_X2_, Q_X5_, Q_X6_, Q_X7_, Q_X10_, Q_X11_⟩
    exact steps_nil
  rintro b a w3 hall ⟨u_, vS, GS1, GS2, m2_, m5_, m6_, m7_, m10_, m11_, ha, Q_D, Q_RM, Q_RV, Q_K1, Q_N1, Q_K2, Q_N2, Q_E1, Q_E2, Q_X2_, Q_X5_, Q_X6_, Q_X7_, Q_X10_, Q_X11_⟩
  clear D
  have hb1_ := hall 1 (by kernel_rfl)
  have hb2_ := hall 2 (by kernel_rfl)
  have hb3_ := hall 3 (by kernel_rfl)
  have hb4_ := hall 4 (by kernel_rfl)
  have hb5_ := hall 5 (by kernel_rfl)
  have hb6_ := hall 6 (by kernel_rfl)
  have hb7_ := hall 7 (by kernel_rfl)
  have hb8_ := hall 8 (by kernel_rfl)
  have hb9_ := hall 9 (by kernel_rfl)
  have hb10_ := hall 10 (by kernel_rfl)
  have hb11_ := hall 11 (by kernel_rfl)
  have hb12_ := hall 12 (by kernel_rfl)
  have hb13_ := hall 13 (by kernel_rfl)
  have hb14_ := hall 14 (by kernel_rfl)
  subst ha
  obtain rfl := Q_X2_ hb2_
  obtain rfl := Q_X5_ hb5_
  obtain rfl := Q_X6_ hb6_
  obtain rfl := Q_X7_ hb7_
  obtain rfl := Q_X10_ hb10_
  obtain rfl := Q_X11_ hb11_
  simp only [putSel, hb1_, hb2_, hb3_, hb4_, hb5_, hb6_, hb7_, hb8_, hb9_, hb10_, hb11_, hb12_, hb13_, hb14_, if_true, Act.put, List.setIfInBounds_toArray, List.set_cons_zero, List.set_cons_succ]
  have D := Aside0.mk Q_D
  clear Q_D
  have RM := Aside0.mk (Q_RM hb2_)
  clear Q_RM
  have RV := Aside0.mk (Q_RV hb5_)
  clear Q_RV
  clear Q_K1
  have N1 := Aside0.mk (Q_N1 hb10_)
  clear Q_N1
  clear Q_K2
  have N2 := Aside0.mk (Q_N2 hb11_)
  clear Q_N2
  have E1 := Aside0.mk (Q_E1 hb12_)
  clear Q_E1
  have E2 := Aside0.mk (Q_E2 hb13_)
  clear Q_E2
  clear hall hb1_ hb2_ hb3_ hb4_ hb5_ hb6_ hb7_ hb8_ hb9_ hb10_ hb11_ hb12_ hb13_ hb14_
  obtain ⟨AS, cS, ev_⟩ := Kd.R_slice RV.out
  subst ev_
  have US := Aside0.mk (Kd.R_lower (Kd.R_mono (Kd.R_bound RV.out) (ok' := fun k_ => w2.heap.size ≤ k_ ∧ k_ < w3.heap.size) (fun k_ h_ => ⟨h_.2.1, h_.2.2.1⟩)) HB.out.size)
  clear RV RM
  have ZS := Aside0.mk D.out.size
  replace B4 := Aside0.mk (blk_below B4.out D.out)
  replace B5 := Aside0.mk (blk_below B5.out D.out)
  replace HB := Aside0.mk (below_step HB.out D.out)
  clear D
  have FS1 := E1
  have FS2 := E2
  have NS1 := N1
  have NS2 := N2
  clear E1 E2 N1 N2
  try clear Q_X2_
  try clear Q_X5_
  try clear Q_X6_
  try clear Q_X7_
  try clear Q_X10_
  try clear Q_X11_
  have L4 := Aside0.mk (show w.heap.size < w3.heap.size from blk_lt B4.out)
  have L5 := Aside0.mk (show w.heap.size + 1 < w3.heap.size from blk_lt B5.out)
  have LS1 := Aside0.mk (show GS1 < w3.heap.size from blk_lt FS1.out)
  have LS2 := Aside0.mk (show GS2 < w3.heap.size from blk_lt FS2.out)
  have L0 := Aside0.mk (show w.heap.size ≤ w2.heap.size from Nat.le_of_lt (Nat.lt_of_lt_of_le (Nat.lt_succ_self _) (by have h1_ := L2w.out; omega)))
  have hx0 : w3.cell? ⟨w.heap.size, 0, none⟩ = some (.slice A1 l.length c1) := (blk_cell B4.out 0).trans rfl
  go_wp2_with fail
  clear hx0
  refine (laws_toMem.calls k _ _ l l _ (Kd.C_below HR.out HB.out) HC.out P2.out).mono ?_
  rintro e w4 ⟨u_, rfl, ru, hb⟩
  obtain ⟨Ax, cx, rfl⟩ := Kd.R_slice ru
  have UX := Aside0.mk (Kd.R_lower (Kd.R_mono (Kd.R_bound ru) (ok' := fun k_ => w3.heap.size ≤ k_ ∧ k_ < w4.heap.size) (fun k_ h_ => ⟨h_.2.1, h_.2.2.1⟩)) HB.out.size)
  clear ru
  have ZX := Aside0.mk (show w3.heap.size ≤ w4.heap.size from hb.size)
  replace US := Aside0.mk (Kd.R_below US.out hb)
  replace B4 := Aside0.mk (blk_below B4.out hb)
  replace B5 := Aside0.mk (blk_below B5.out hb)
  replace FS1 := Aside0.mk (blk_below FS1.out hb)
  replace FS2 := Aside0.mk (blk_below FS2.out hb)
  replace HB := Aside0.mk (below_step HB.out hb)
  clear hb
  go_wp2_with fail
  have HD := Aside0.mk (below_alloc (Below.refl w4.heap.size w4) (.cells #[.slice Ax l.length cx] 29 (0, 0)))
  have BX := Aside0.mk (show (w4.alloc (.cells #[.slice Ax l.length cx] 29 (0, 0))).heap[w4.heap.size]? = some (.cells #[.slice Ax l.length cx] 29 (0, 0)) from by simpa using heap_alloc_new w4 _)
  replace US := Aside0.mk (Kd.R_below US.out HD.out)
  replace UX := Aside0.mk (Kd.R_below UX.out HD.out)
  replace B4 := Aside0.mk (blk_below B4.out HD.out)
  replace B5 := Aside0.mk (blk_below B5.out HD.out)
  replace FS1 := Aside0.mk (blk_below FS1.out HD.out)
  replace FS2 := Aside0.mk (blk_below FS2.out HD.out)
  replace HB := Aside0.mk (below_step HB.out HD.out)
  replace B4 := Aside0.mk (blk_drew B4.out)
  replace B5 := Aside0.mk (blk_drew B5.out)
  replace FS1 := Aside0.mk (blk_drew FS1.out)
  replace FS2 := Aside0.mk (blk_drew FS2.out)
  replace BX := Aside0.mk (blk_drew BX.out)
  replace US := Aside0.mk (Kd.R_drew US.out)
  replace UX := Aside0.mk (Kd.R_drew UX.out)
  replace HB := Aside0.mk (below_drew1 HB.out)
  refine start_ (n := 14) (S := fun w' => True) (ds := []) #[false, false, false, false, false, false, false, false, false, false, false, false, false, false] (by kernel_rfl) rfl rfl trivial (fun hHeld => ?_); refine with_tabW laws_FnExactLiStep.tab7 laws_FnExactLiStep.bits7 (fun HT_ HW_ => ?_)
  generalize ((w4.alloc (.cells #[.slice Ax l.length cx] 29 (0, 0)))).drew = w5 at B4 B5 FS1 FS2 BX US UX HB hHeld ⊢
  have D := Aside0.mk (Below.refl w5.heap.size w5)
  have Z5 := Aside0.mk (show w4.heap.size < w5.heap.size from blk_lt BX.out)
  refine pure_ (i := 0) (N := some 39) (v := ?_) (a' := ?_) #[true, false, false, false, false, false, false, false, false, false, false, false, false, false] rfl rfl (any_of HT_.out (by kernel_rfl)) (fun _ _ _ h => h) (Or.inl ⟨by rfl, ?_⟩) ?_ ?_
  rotate_left
  · intro w'
    go_simp
    with_reducible rfl
  rotate_left
  · simp only [Act.put, List.setIfInBounds_toArray, List.set_cons_zero, List.set_cons_succ, i64_w, i32_w]
    rfl
  refine inv_at [1, 2, 3, 4, 5, 6, 7, 8, 9, 10, 11, 12, 13] (fun a0_ b a w' => ∃ (vI : Value) (GI1 : Nat) (GI2 : Nat) (m4_ : Value) (m5_ : Value) (m6_ : Value) (m9_ : Value) (m10_ : Value), a = putSel a0_ b [(1, 40, .agg #[.slice Ax l.length cx]), (2, 41, .agg #[.int .i64 a_0, .int .i64 a_1, .int .i64 a_2, .int .i64 a_3, .int .i64 a_4, .int .i64 a_5, .int .i64 a_6, .int .i64 a_7, .int .i64 a_8, .bool a_9]), (3, 42, .agg #[.int .i64 a_0, .int .i64 a_1, .int .i64 a_2, .int .i64 a_3, .int .i64 a_4, .int .i64 a_5, .int .i64 a_6, .int .i64 a_7, .int .i64 a_8, .bool a_9]), (4, 43, m4_), (5, 38, m5_), (6, 44, m6_), (7, 45, .agg #[.int .i64 r_0, .int .i64 r_1, .int .i64 r_2, .int .i64 r_3, .int .i64 r_4, .int .i64 r_5, .int .i64 r_6, .int .i64 r_7, .int .i64 r_8, .bool r_9]), (8, 46, .bool q), (9, 12, m9_), (10, 13, m10_), (13, 14, .bool q)] ∧ (Below w5.heap.size w5 w') ∧ (b 4 = true → Kd.R (Kd.int .i64) 3 w' w5.heap.size (fun _ => True) vI M) ∧ (b 9 = true → b 11 = false → w'.heap[GI1]? = some (.cells #[.slice none 0 0] 29 (0, 0))) ∧ (b 9 = true → w5.heap.size ≤ GI1) ∧ (b 10 = true → b 12 = false → w'.heap[GI2]? = some (.cells #[.int .i64 0, .int .i64 0, .int .i64 0, .int .i64 0, .int .i64 0, .int .i64 0, .int .i64 0, .int .i64 0, .int .i64 0, .bool false] 23 (0, 0))) ∧ (b 10 = true → w5.heap.size ≤ GI2) ∧ (b 11 = true → w'.heap[GI1]? = some (.cells #[vI] 29 (0, 0))) ∧ (b 12 = true → w'.heap[GI2]? = some (.cells #[.int .i64 r_0, .int .i64 r_1, .int .i64 r_2, .int .i64 r_3, .int .i64 r_4, .int .i64 r_5, .int .i64 r_6, .int .i64 r_7, .int .i64 r_8, .bool r_9] 23 (0, 0))) ∧ (b 4 = true → (m4_ : Value) = .tuple #[.agg #[vI], .agg #[.int .i64 r_0, .int .i64 r_1, .int .i64 r_2, .int .i64 r_3, .int .i64 r_4, .int .i64 r_5, .int .i64 r_6, .int .i64 r_7, .int .i64 r_8, .bool r_9], .bool q]) ∧ (b 5 = true → (m5_ : Value) = .tuple #[.agg #[vI], .agg #[.int .i64 r_0, .int .i64 r_1, .int .i64 r_2, .int .i64 r_3, .int .i64 r_4, .int .i64 r_5, .int .i64 r_6, .int .i64 r_7, .int .i64 r_8, .bool r_9], .bool q]) ∧ (b 6 = true → (m6_ : Value) = .agg #[vI]) ∧ (b 9 = true → (m9_ : Value) = .pointer (some ⟨GI1, 0, none⟩)) ∧ (b 10 = true → (m10_ : Value) = .pointer (some ⟨GI2, 0, none⟩))) HT_.out HW_.out (by kernel_rfl) (by kernel_rfl) ?_ ?_ ?_
  · exact ⟨.bool false, 0, 0, .bool false, .bool false, .bool false, .bool false, .bool false, by simp only [putSel, Bool.false_eq_true, if_false], D.out, fun h_ => absurd h_ (by decide), fun h_ => absurd h_ (by decide), fun h_ => absurd h_ (by decide), fun h_ => absurd h_ (by decide), fun h_ => absurd h_ (by decide), fun h_ => absurd h_ (by decide), fun h_ => absurd h_ (by decide), fun h_ => absurd h_ (by decide), fun h_ => absurd h_ (by decide), fun h_ => absurd h_ (by decide), fun h_ => absurd h_ (by decide), fun h_ => absurd h_ (by decide)⟩
  · skip
    clear D
    refine steps_cons ?_ ?_
    · rintro b a w' ⟨vI, GI1, GI2, m4_, m5_, m6_, m9_, m10_, ha, Q_D, Q_RV, Q_K1, Q_N1, Q_K2, Q_N2, Q_E1, Q_E2, Q_X4_, Q_X5_, Q_X6_, Q_X9_, Q_X10_⟩ hb_ hon hoff
      refine ⟨_, rfl, fun K hK => ?_⟩
      have e11 : a.tmps[11]? = some (.pointer (some ⟨w4.heap.size, 0, none⟩)) := by rw [ha]; exact (putSel_off rfl).trans rfl
      replace ha := Aside0.mk ha
      have D := Aside0.mk Q_D
      have hc0_ : w'.cell? ⟨w4.heap.size, 0, none⟩ = some (.slice Ax l.length cx) := (blk_cell (blk_below BX.out D.out) 0).trans rfl
      refine value_ (w1 := w') (v := .agg #[.slice Ax l.length cx]) (by rfl) rfl ?_ ?_
      · go_simp
        (try simp only [i64_w])
        try rfl
      refine hK.out _ _ ⟨vI, GI1, GI2, m4_, m5_, m6_, m9_, m10_, (by rw [ha.out]; exact putSel_upk 0 hb_ rfl rfl rfl), Q_D, fun h0_ => absurd ((hoff 4 (by kernel_rfl)).symm.trans h0_) (by decide), Q_K1, Q_N1, Q_K2, Q_N2, fun h0_ => absurd ((hoff 11 (by kernel_rfl)).symm.trans h0_) (by decide), fun h0_ => absurd ((hoff 12 (by kernel_rfl)).symm.trans h0_) (by decide), fun h0_ => absurd ((hoff 4 (by kernel_rfl)).symm.trans h0_) (by decide), fun h0_ => absurd ((hoff 5 (by kernel_rfl)).symm.trans h0_) (by decide), fun h0_ => absurd ((hoff 6 (by kernel_rfl)).symm.trans h0_) (by decide), Q_X9_, Q_X10_⟩
    refine steps_cons ?_ ?_
    · rintro b a w' ⟨vI, GI1, GI2, m4_, m5_, m6_, m9_, m10_, ha, Q_D, Q_RV, Q_K1, Q_N1, Q_K2, Q_N2, Q_E1, Q_E2, Q_X4_, Q_X5_, Q_X6_, Q_X9_, Q_X10_⟩ hb_ hon hoff
      refine ⟨_, rfl, fun K hK => ?_⟩
      have e5 : a.tmps[5]? = some (.pointer (some ⟨(w.heap.size + 1), 0, none⟩)) := by rw [ha]; exact (putSel_off rfl).trans rfl
      replace ha := Aside0.mk ha
      have D := Aside0.mk Q_D
      have hc0_ : w'.cell? ⟨(w.heap.size + 1), 0, none⟩ = some (.int .i64 a_0) := (blk_cell (blk_below B5.out D.out) 0).trans rfl
      have hc1_ : w'.cell? ⟨(w.heap.size + 1), 1, none⟩ = some (.int .i64 a_1) := (blk_cell (blk_below B5.out D.out) 1).trans rfl
      have hc2_ : w'.cell? ⟨(w.heap.size + 1), 2, none⟩ = some (.int .i64 a_2) := (blk_cell (blk_below B5.out D.out) 2).trans rfl
      have hc3_ : w'.cell? ⟨(w.heap.size + 1), 3, none⟩ = some (.int .i64 a_3) := (blk_cell (blk_below B5.out D.out) 3).trans rfl
      have hc4_ : w'.cell? ⟨(w.heap.size + 1), 4, none⟩ = some (.int .i64 a_4) := (blk_cell (blk_below B5.out D.out) 4).trans rfl
      have hc5_ : w'.cell? ⟨(w.heap.size + 1), 5, none⟩ = some (.int .i64 a_5) := (blk_cell (blk_below B5.out D.out) 5).trans rfl
      have hc6_ : w'.cell? ⟨(w.heap.size + 1), 6, none⟩ = some (.int .i64 a_6) := (blk_cell (blk_below B5.out D.out) 6).trans rfl
      have hc7_ : w'.cell? ⟨(w.heap.size + 1), 7, none⟩ = some (.int .i64 a_7) := (blk_cell (blk_below B5.out D.out) 7).trans rfl
      have hc8_ : w'.cell? ⟨(w.heap.size + 1), 8, none⟩ = some (.int .i64 a_8) := (blk_cell (blk_below B5.out D.out) 8).trans rfl
      have hc9_ : w'.cell? ⟨(w.heap.size + 1), 9, none⟩ = some (.bool a_9) := (blk_cell (blk_below B5.out D.out) 9).trans rfl
      refine value_ (w1 := w') (v := .agg #[.int .i64 a_0, .int .i64 a_1, .int .i64 a_2, .int .i64 a_3, .int .i64 a_4, .int .i64 a_5, .int .i64 a_6, .int .i64 a_7, .int .i64 a_8, .bool a_9]) (by rfl) rfl ?_ ?_
      · go_simp
        (try simp only [i64_w])
        try rfl
      refine hK.out _ _ ⟨vI, GI1, GI2, m4_, m5_, m6_, m9_, m10_, (by rw [ha.out]; exact putSel_upk 1 hb_ rfl rfl rfl), Q_D, fun h0_ => absurd ((hoff 4 (by kernel_rfl)).symm.trans h0_) (by decide), Q_K1, Q_N1, Q_K2, Q_N2, fun h0_ => absurd ((hoff 11 (by kernel_rfl)).symm.trans h0_) (by decide), fun h0_ => absurd ((hoff 12 (by kernel_rfl)).symm.trans h0_) (by decide), fun h0_ => absurd ((hoff 4 (by kernel_rfl)).symm.trans h0_) (by decide), fun h0_ => absurd ((hoff 5 (by kernel_rfl)).symm.trans h0_) (by decide), fun h0_ => absurd ((hoff 6 (by kernel_rfl)).symm.trans h0_) (by decide), Q_X9_, Q_X10_⟩
    refine steps_cons ?_ ?_
    · rintro b a w' ⟨vI, GI1, GI2, m4_, m5_, m6_, m9_, m10_, ha, Q_D, Q_RV, Q_K1, Q_N1, Q_K2, Q_N2, Q_E1, Q_E2, Q_X4_, Q_X5_, Q_X6_, Q_X9_, Q_X10_⟩ hb_ hon hoff
      refine ⟨_, rfl, fun K hK => ?_⟩
      have e41 : a.tmps[41]? = some (.agg #[.int .i64 a_0, .int .i64 a_1, .int .i64 a_2, .int .i64 a_3, .int .i64 a_4, .int .i64 a_5, .int .i64 a_6, .int .i64 a_7, .int .i64 a_8, .bool a_9]) := by rw [ha]; exact putSel_on (e := (2, 41, .agg #[.int .i64 a_0, .int .i64 a_1, .int .i64 a_2, .int .i64 a_3, .int .i64 a_4, .int .i64 a_5, .int .i64 a_6, .int .i64 a_7, .int .i64 a_8, .bool a_9])) 1 rfl rfl (hon 2 (by kernel_rfl)) rfl
      replace ha := Aside0.mk ha
      have D := Aside0.mk Q_D
      refine goes_ Try.func20 (by kernel_rfl) rfl #[.agg #[.int .i64 a_0, .int .i64 a_1, .int .i64 a_2, .int .i64 a_3, .int .i64 a_4, .int .i64 a_5, .int .i64 a_6, .int .i64 a_7, .int .i64 a_8, .bool a_9]] (by rfl) rfl rfl (by first | (simp only [List.map_toArray, List.map_cons, List.map_nil, Act.eval, Array.getD_eq_getD_getElem?, Option.getD_some, e41]; done) | (simp only [List.map_toArray, List.map_cons, List.map_nil, Act.eval, Array.getD_eq_getD_getElem?, Option.getD_some, e41]; rfl)) ?_
      with_reducible refine (laws_toCall.calls a_0 a_1 a_2 a_3 a_4 a_5 a_6 a_7 a_8 a_9 a_0 a_1 a_2 a_3 a_4 a_5 a_6 a_7 a_8 a_9 _ P0.out).mono ?_
      rintro e w2_ ⟨rfl, hb⟩
      refine ⟨_, rfl, ?_⟩
      refine hK.out _ _ ⟨vI, GI1, GI2, m4_, m5_, m6_, m9_, m10_, (by rw [ha.out]; exact putSel_upk 2 hb_ rfl rfl rfl), below_step D.out hb, fun h0_ => absurd ((hoff 4 (by kernel_rfl)).symm.trans h0_) (by decide), fun h0_ h1_ => blk_below (Q_K1 h0_ h1_) hb, Q_N1, fun h0_ h1_ => blk_below (Q_K2 h0_ h1_) hb, Q_N2, fun h0_ => absurd ((hoff 11 (by kernel_rfl)).symm.trans h0_) (by decide), fun h0_ => absurd ((hoff 12 (by kernel_rfl)).symm.trans h0_) (by decide), fun h0_ => absurd ((hoff 4 (by kernel_rfl)).symm.trans h0_) (by decide), fun h0_ => absurd ((hoff 5 (by kernel_rfl)).symm.trans h0_) (by decide), fun h0_ => absurd ((hoff 6 (by kernel_rfl)).symm.trans h0_) (by decide), Q_X9_, Q_X10_⟩
    refine steps_cons ?_ ?_
    · rintro b a w' ⟨vI, GI1, GI2, m4_, m5_, m6_, m9_, m10_, ha, Q_D, Q_RV, Q_K1, Q_N1, Q_K2, Q_N2, Q_E1, Q_E2, Q_X4_, Q_X5_, Q_X6_, Q_X9_, Q_X10_⟩ hb_ hon hoff
      refine ⟨_, rfl, fun K hK => ?_⟩
      have e39 : a.tmps[39]? = some (.int .i64 n) := by rw [ha]; exact (putSel_off rfl).trans rfl
      have e40 : a.tmps[40]? = some (.agg #[.slice Ax l.length cx]) := by rw [ha]; exact putSel_on (e := (1, 40, .agg #[.slice Ax l.length cx])) 0 rfl rfl (hon 1 (by kernel_rfl)) rfl
      have e42 : a.tmps[42]? = some (.agg #[.int .i64 a_0, .int .i64 a_1, .int .i64 a_2, .int .i64 a_3, .int .i64 a_4, .int .i64 a_5, .int .i64 a_6, .int .i64 a_7, .int .i64 a_8, .bool a_9]) := by rw [ha]; exact putSel_on (e := (3, 42, .agg #[.int .i64 a_0, .int .i64 a_1, .int .i64 a_2, .int .i64 a_3, .int .i64 a_4, .int .i64 a_5, .int .i64 a_6, .int .i64 a_7, .int .i64 a_8, .bool a_9])) 2 rfl rfl (hon 3 (by kernel_rfl)) rfl
      replace ha := Aside0.mk ha
      have D := Aside0.mk Q_D
      refine goes_ Try.func26 (by kernel_rfl) rfl #[.int .i64 n, .agg #[.slice Ax l.length cx], .agg #[.int .i64 a_0, .int .i64 a_1, .int .i64 a_2, .int .i64 a_3, .int .i64 a_4, .int .i64 a_5, .int .i64 a_6, .int .i64 a_7, .int .i64 a_8, .bool a_9]] (by rfl) rfl rfl (by first | (simp only [List.map_toArray, List.map_cons, List.map_nil, Act.eval, Array.getD_eq_getD_getElem?, Option.getD_some, e39, e40, e42]; done) | (simp only [List.map_toArray, List.map_cons, List.map_nil, Act.eval, Array.getD_eq_getD_getElem?, Option.getD_some, e39, e40, e42]; rfl)) ?_
      with_reducible refine (impl_LiStep.calls k n _ _ l a_0 a_1 a_2 a_3 a_4 a_5 a_6 a_7 a_8 a_9 M r_0 r_1 r_2 r_3 r_4 r_5 r_6 r_7 r_8 r_9 q _ ?side1 ?side2 P4.out).mono ?_
      (case side1 => exact Kd.C_below (Kd.R_reads' UX.out).2.2 D.out)
      (case side2 => exact (Kd.R_reads' UX.out).2.1)
      rintro e w2_ ⟨vI, rfl, ho0, hb⟩
      refine ⟨_, rfl, ?_⟩
      refine hK.out _ _ ⟨vI, GI1, GI2, (.tuple #[.agg #[vI], .agg #[.int .i64 r_0, .int .i64 r_1, .int .i64 r_2, .int .i64 r_3, .int .i64 r_4, .int .i64 r_5, .int .i64 r_6, .int .i64 r_7, .int .i64 r_8, .bool r_9], .bool q]), m5_, m6_, m9_, m10_, (by rw [ha.out]; exact putSel_upk 3 hb_ rfl rfl rfl), below_step D.out hb, fun _ => Kd.R_lower ho0 D.out.size, fun h0_ h1_ => blk_below (Q_K1 h0_ h1_) hb, Q_N1, fun h0_ h1_ => blk_below (Q_K2 h0_ h1_) hb, Q_N2, fun h0_ => absurd ((hoff 11 (by kernel_rfl)).symm.trans h0_) (by decide), fun h0_ => absurd ((hoff 12 (by kernel_rfl)).symm.trans h0_) (by decide), fun _ => rfl, fun h0_ => absurd ((hoff 5 (by kernel_rfl)).symm.trans h0_) (by decide), fun h0_ => absurd ((hoff 6 (by kernel_rfl)).symm.trans h0_) (by decide), Q_X9_, Q_X10_⟩
    refine steps_cons ?_ ?_
    · rintro b a w' ⟨vI, GI1, GI2, m4_, m5_, m6_, m9_, m10_, ha, Q_D, Q_RV, Q_K1, Q_N1, Q_K2, Q_N2, Q_E1, Q_E2, Q_X4_, Q_X5_, Q_X6_, Q_X9_, Q_X10_⟩ hb_ hon hoff
      refine ⟨_, rfl, fun K hK => ?_⟩
      have e43 : a.tmps[43]? = some (m4_) := by rw [ha]; exact putSel_on (e := (4, 43, m4_)) 3 rfl rfl (hon 4 (by kernel_rfl)) rfl
      rw [Q_X4_ (hon 4 (by kernel_rfl))] at e43
      replace ha := Aside0.mk ha
      have D := Aside0.mk Q_D
      have RV := Aside0.mk (Q_RV (hon 4 (by kernel_rfl)))
      refine value_ (w1 := w') (v := .tuple #[.agg #[vI], .agg #[.int .i64 r_0, .int .i64 r_1, .int .i64 r_2, .int .i64 r_3, .int .i64 r_4, .int .i64 r_5, .int .i64 r_6, .int .i64 r_7, .int .i64 r_8, .bool r_9], .bool q]) (by rfl) rfl ?_ ?_
      · go_simp
        (try simp only [i64_w])
        try rfl
      refine hK.out _ _ ⟨vI, GI1, GI2, m4_, (.tuple #[.agg #[vI], .agg #[.int .i64 r_0, .int .i64 r_1, .int .i64 r_2, .int .i64 r_3, .int .i64 r_4, .int .i64 r_5, .int .i64 r_6, .int .i64 r_7, .int .i64 r_8, .bool r_9], .bool q]), m6_, m9_, m10_, (by rw [ha.out]; exact putSel_upk 4 hb_ rfl rfl rfl), Q_D, Q_RV, Q_K1, Q_N1, Q_K2, Q_N2, fun h0_ => absurd ((hoff 11 (by kernel_rfl)).symm.trans h0_) (by decide), fun h0_ => absurd ((hoff 12 (by kernel_rfl)).symm.trans h0_) (by decide), Q_X4_, fun _ => rfl, fun h0_ => absurd ((hoff 6 (by kernel_rfl)).symm.trans h0_) (by decide), Q_X9_, Q_X10_⟩
    refine steps_cons ?_ ?_
    · rintro b a w' ⟨vI, GI1, GI2, m4_, m5_, m6_, m9_, m10_, ha, Q_D, Q_RV, Q_K1, Q_N1, Q_K2, Q_N2, Q_E1, Q_E2, Q_X4_, Q_X5_, Q_X6_, Q_X9_, Q_X10_⟩ hb_ hon hoff
      refine ⟨_, rfl, fun K hK => ?_⟩
      have e38 : a.tmps[38]? = some (m5_) := by rw [ha]; exact putSel_on (e := (5, 38, m5_)) 4 rfl rfl (hon 5 (by kernel_rfl)) rfl
      rw [Q_X5_ (hon 5 (by kernel_rfl))] at e38
      replace ha := Aside0.mk ha
      have D := Aside0.mk Q_D
      have RV := Aside0.mk (Q_RV (hon 4 (by kernel_rfl)))
      refine value_ (w1 := w') (v := .agg #[vI]) (by rfl) rfl ?_ ?_
      · go_simp
        (try simp only [i64_w])
        try rfl
      refine hK.out _ _ ⟨vI, GI1, GI2, m4_, m5_, (.agg #[vI]), m9_, m10_, (by rw [ha.out]; exact putSel_upk 5 hb_ rfl rfl rfl), Q_D, Q_RV, Q_K1, Q_N1, Q_K2, Q_N2, fun h0_ => absurd ((hoff 11 (by kernel_rfl)).symm.trans h0_) (by decide), Q_E2, Q_X4_, Q_X5_, fun _ => rfl, Q_X9_, Q_X10_⟩
    refine steps_cons ?_ ?_
    · rintro b a w' ⟨vI, GI1, GI2, m4_, m5_, m6_, m9_, m10_, ha, Q_D, Q_RV, Q_K1, Q_N1, Q_K2, Q_N2, Q_E1, Q_E2, Q_X4_, Q_X5_, Q_X6_, Q_X9_, Q_X10_⟩ hb_ hon hoff
      refine ⟨_, rfl, fun K hK => ?_⟩
      have e38 : a.tmps[38]? = some (m5_) := by rw [ha]; exact putSel_on (e := (5, 38, m5_)) 4 rfl rfl (hon 5 (by kernel_rfl)) rfl
      rw [Q_X5_ (hon 5 (by kernel_rfl))] at e38
      replace ha := Aside0.mk ha
      have D := Aside0.mk Q_D
      have RV := Aside0.mk (Q_RV (hon 4 (by kernel_rfl)))
      refine value_ (w1 := w') (v := .agg #[.int .i64 r_0, .int .i64 r_1, .int .i64 r_2, .int .i64 r_3, .int .i64 r_4, .int .i64 r_5, .int .i64 r_6, .int .i64 r_7, .int .i64 r_8, .bool r_9]) (by rfl) rfl ?_ ?_
      · go_simp
        (try simp only [i64_w])
        try rfl
      refine hK.out _ _ ⟨vI, GI1, GI2, m4_, m5_, m6_, m9_, m10_, (by rw [ha.out]; exact putSel_upk 6 hb_ rfl rfl rfl), Q_D, Q_RV, Q_K1, Q_N1, Q_K2, Q_N2, Q_E1, fun h0_ => absurd ((hoff 12 (by kernel_rfl)).symm.trans h0_) (by decide), Q_X4_, Q_X5_, Q_X6_, Q_X9_, Q_X10_⟩
    refine steps_cons ?_ ?_
    · rintro b a w' ⟨vI, GI1, GI2, m4_, m5_, m6_, m9_, m10_, ha, Q_D, Q_RV, Q_K1, Q_N1, Q_K2, Q_N2, Q_E1, Q_E2, Q_X4_, Q_X5_, Q_X6_, Q_X9_, Q_X10_⟩ hb_ hon hoff
      refine ⟨_, rfl, fun K hK => ?_⟩
      have e38 : a.tmps[38]? = some (m5_) := by rw [ha]; exact putSel_on (e := (5, 38, m5_)) 4 rfl rfl (hon 5 (by kernel_rfl)) rfl
      rw [Q_X5_ (hon 5 (by kernel_rfl))] at e38
      replace ha := Aside0.mk ha
      have D := Aside0.mk Q_D
      have RV := Aside0.mk (Q_RV (hon 4 (by kernel_rfl)))
      refine value_ (w1 := w') (v := .bool q) (by rfl) rfl ?_ ?_
      · go_simp
        (try simp only [i64_w])
        try rfl
      refine hK.out _ _ ⟨vI, GI1, GI2, m4_, m5_, m6_, m9_, m10_, (by rw [ha.out]; exact putSel_upk 7 hb_ rfl rfl rfl), Q_D, Q_RV, Q_K1, Q_N1, Q_K2, Q_N2, Q_E1, Q_E2, Q_X4_, Q_X5_, Q_X6_, Q_X9_, Q_X10_⟩
    refine steps_cons ?_ ?_
    · rintro b a w' ⟨vI, GI1, GI2, m4_, m5_, m6_, m9_, m10_, ha, Q_D, Q_RV, Q_K1, Q_N1, Q_K2, Q_N2, Q_E1, Q_E2, Q_X4_, Q_X5_, Q_X6_, Q_X9_, Q_X10_⟩ hb_ hon hoff
      refine ⟨_, rfl, fun K hK => ?_⟩
      replace ha := Aside0.mk ha
      have D := Aside0.mk Q_D
      refine box_step ?hg (N := 12) ?hd (cs := #[.slice none 0 0]) (t := 29) ?hr ?_; (case hd => rfl); (case hg => rfl); (case hr => first | (go_simp; done) | (go_simp; rfl))
      intro GI1 hg w2_ hbox hb
      refine hK.out _ _ ⟨vI, GI1, GI2, m4_, m5_, m6_, (.pointer (some ⟨GI1, 0, none⟩)), m10_, (by rw [ha.out]; exact putSel_upk 8 hb_ rfl rfl rfl), below_step D.out hb, fun h0_ => Kd.R_below (Q_RV h0_) hb, fun _ _ => hbox, fun _ => (by rw [hg]; exact D.out.size), fun h0_ h1_ => blk_below (Q_K2 h0_ h1_) hb, Q_N2, fun h0_ => absurd ((hoff 11 (by kernel_rfl)).symm.trans h0_) (by decide), fun h0_ => blk_below (Q_E2 h0_) hb, Q_X4_, Q_X5_, Q_X6_, fun _ => rfl, Q_X10_⟩
    refine steps_cons ?_ ?_
    · rintro b a w' ⟨vI, GI1, GI2, m4_, m5_, m6_, m9_, m10_, ha, Q_D, Q_RV, Q_K1, Q_N1, Q_K2, Q_N2, Q_E1, Q_E2, Q_X4_, Q_X5_, Q_X6_, Q_X9_, Q_X10_⟩ hb_ hon hoff
      refine ⟨_, rfl, fun K hK => ?_⟩
      replace ha := Aside0.mk ha
      have D := Aside0.mk Q_D
      refine box_step ?hg (N := 13) ?hd (cs := #[.int .i64 0, .int .i64 0, .int .i64 0, .int .i64 0, .int .i64 0, .int .i64 0, .int .i64 0, .int .i64 0, .int .i64 0, .bool false]) (t := 23) ?hr ?_; (case hd => rfl); (case hg => rfl); (case hr => first | (go_simp; done) | (go_simp; rfl))
      intro GI2 hg w2_ hbox hb
      refine hK.out _ _ ⟨vI, GI1, GI2, m4_, m5_, m6_, m9_, (.pointer (some ⟨GI2, 0, none⟩)), (by rw [ha.out]; exact putSel_upk 9 hb_ rfl rfl rfl), below_step D.out hb, fun h0_ => Kd.R_below (Q_RV h0_) hb, fun h0_ h1_ => blk_below (Q_K1 h0_ h1_) hb, Q_N1, fun _ _ => hbox, fun _ => (by rw [hg]; exact D.out.size), fun h0_ => blk_below (Q_E1 h0_) hb, fun h0_ => absurd ((hoff 12 (by kernel_rfl)).symm.trans h0_) (by decide), Q_X4_, Q_X5_, Q_X6_, Q_X9_, fun _ => rfl⟩
    refine steps_cons ?_ ?_
    · rintro b a w' ⟨vI, GI1, GI2, m4_, m5_, m6_, m9_, m10_, ha, Q_D, Q_RV, Q_K1, Q_N1, Q_K2, Q_N2, Q_E1, Q_E2, Q_X4_, Q_X5_, Q_X6_, Q_X9_, Q_X10_⟩ hb_ hon hoff
      refine ⟨_, rfl, fun K hK => ?_⟩
      have e12 : a.tmps[12]? = some (m9_) := by rw [ha]; exact putSel_on (e := (9, 12, m9_)) 8 rfl rfl (hon 9 (by kernel_rfl)) rfl
      rw [Q_X9_ (hon 9 (by kernel_rfl))] at e12
      have e44 : a.tmps[44]? = some (m6_) := by rw [ha]; exact putSel_on (e := (6, 44, m6_)) 5 rfl rfl (hon 6 (by kernel_rfl)) rfl
      rw [Q_X6_ (hon 6 (by kernel_rfl))] at e44
      replace ha := Aside0.mk ha
      have D := Aside0.mk Q_D
      have RV := Aside0.mk (Q_RV (hon 4 (by kernel_rfl)))
      have K1 := Aside0.mk (Q_K1 (hon 9 (by kernel_rfl)) hb_)
      have N1 := Aside0.mk (Q_N1 (hon 9 (by kernel_rfl)))
      obtain ⟨Av_, cv_, ev_⟩ := Kd.R_slice RV.out
      subst ev_
      have hs0_ : w'.cell? ⟨GI1, 0, none⟩ = some (.slice none 0 0) := (blk_cell K1.out 0).trans rfl
      have hz0_ := blk_frozen K1.out 0
      have hst_ := Aside0.mk (show ∀ k, k ≠ GI1 → ((w'.setCell ⟨GI1, 0, none⟩ (.slice Av_ M.length cv_))).heap[k]? = w'.heap[k]? from by (with_reducible apply set_step_); exact fun _ _ => rfl)
      have hnew_ := Aside0.mk (show ((w'.setCell ⟨GI1, 0, none⟩ (.slice Av_ M.length cv_))).heap[GI1]? = some (.cells #[.slice Av_ M.length cv_] 29 (0, 0)) from by have h1_ := blk_set K1.out 0 (.slice Av_ M.length cv_); simpa using h1_)
      refine skip_ (w1 := ?_) (by rfl) rfl ?_ ?_
      rotate_left
      · go_simp
        rfl
      refine hK.out _ _ ⟨.slice Av_ M.length cv_, GI1, GI2, m4_, m5_, m6_, m9_, m10_, (by rw [ha.out]; exact putSel_none (v := undef) rfl), (by repeat (with_reducible first | exact D.out | refine below_set ?_ N1.out)), fun _ => R_sets_ RV.out K1.out (by decide) hst_.out, fun _ h1_ => absurd ((up_self b 11).symm.trans h1_) (by decide), Q_N1, fun h0_ h1_ => (hst_.out _ (ne_t_ (Q_K2 h0_ h1_) K1.out (by decide))).trans (Q_K2 h0_ h1_), Q_N2, fun _ => hnew_.out, fun h0_ => (hst_.out _ (ne_t_ (Q_E2 h0_) K1.out (by decide))).trans (Q_E2 h0_), Q_X4_, Q_X5_, Q_X6_, Q_X9_, Q_X10_⟩
    refine steps_cons ?_ ?_
    · rintro b a w' ⟨vI, GI1, GI2, m4_, m5_, m6_, m9_, m10_, ha, Q_D, Q_RV, Q_K1, Q_N1, Q_K2, Q_N2, Q_E1, Q_E2, Q_X4_, Q_X5_, Q_X6_, Q_X9_, Q_X10_⟩ hb_ hon hoff
      refine ⟨_, rfl, fun K hK => ?_⟩
      have e13 : a.tmps[13]? = some (m10_) := by rw [ha]; exact putSel_on (e := (10, 13, m10_)) 9 rfl rfl (hon 10 (by kernel_rfl)) rfl
      rw [Q_X10_ (hon 10 (by kernel_rfl))] at e13
      have e45 : a.tmps[45]? = some (.agg #[.int .i64 r_0, .int .i64 r_1, .int .i64 r_2, .int .i64 r_3, .int .i64 r_4, .int .i64 r_5, .int .i64 r_6, .int .i64 r_7, .int .i64 r_8, .bool r_9]) := by rw [ha]; exact putSel_on (e := (7, 45, .agg #[.int .i64 r_0, .int .i64 r_1, .int .i64 r_2, .int .i64 r_3, .int .i64 r_4, .int .i64 r_5, .int .i64 r_6, .int .i64 r_7, .int .i64 r_8, .bool r_9])) 6 rfl rfl (hon 7 (by kernel_rfl)) rfl
      replace ha := Aside0.mk ha
      have D := Aside0.mk Q_D
      have RV := Aside0.mk (Q_RV (hon 4 (by kernel_rfl)))
      have K2 := Aside0.mk (Q_K2 (hon 10 (by kernel_rfl)) hb_)
      have N2 := Aside0.mk (Q_N2 (hon 10 (by kernel_rfl)))
      have hs0_ : w'.cell? ⟨GI2, 0, none⟩ = some (.int .i64 0) := (blk_cell K2.out 0).trans rfl
      have hs1_ : w'.cell? ⟨GI2, 1, none⟩ = some (.int .i64 0) := (blk_cell K2.out 1).trans rfl
      have hs2_ : w'.cell? ⟨GI2, 2, none⟩ = some (.int .i64 0) := (blk_cell K2.out 2).trans rfl
      have hs3_ : w'.cell? ⟨GI2, 3, none⟩ = some (.int .i64 0) := (blk_cell K2.out 3).trans rfl
      have hs4_ : w'.cell? ⟨GI2, 4, none⟩ = some (.int .i64 0) := (blk_cell K2.out 4).trans rfl
      have hs5_ : w'.cell? ⟨GI2, 5, none⟩ = some (.int .i64 0) := (blk_cell K2.out 5).trans rfl
      have hs6_ : w'.cell? ⟨GI2, 6, none⟩ = some (.int .i64 0) := (blk_cell K2.out 6).trans rfl
      have hs7_ : w'.cell? ⟨GI2, 7, none⟩ = some (.int .i64 0) := (blk_cell K2.out 7).trans rfl
      have hs8_ : w'.cell? ⟨GI2, 8, none⟩ = some (.int .i64 0) := (blk_cell K2.out 8).trans rfl
      have hs9_ : w'.cell? ⟨GI2, 9, none⟩ = some (.bool false) := (blk_cell K2.out 9).trans rfl
      have hz0_ := blk_frozen K2.out 0
      have hz1_ := blk_frozen K2.out 1
      have hz2_ := blk_frozen K2.out 2
      have hz3_ := blk_frozen K2.out 3
      have hz4_ := blk_frozen K2.out 4
      have hz5_ := blk_frozen K2.out 5
      have hz6_ := blk_frozen K2.out 6
      have hz7_ := blk_frozen K2.out 7
      have hz8_ := blk_frozen K2.out 8
      have hz9_ := blk_frozen K2.out 9
      have hst_ := Aside0.mk (show ∀ k, k ≠ GI2 → (((((((((((w'.setCell ⟨GI2, 0, none⟩ (.int .i64 r_0)).setCell ⟨GI2, 1, none⟩ (.int .i64 r_1)).setCell ⟨GI2, 2, none⟩ (.int .i64 r_2)).setCell ⟨GI2, 3, none⟩ (.int .i64 r_3)).setCell ⟨GI2, 4, none⟩ (.int .i64 r_4)).setCell ⟨GI2, 5, none⟩ (.int .i64 r_5)).setCell ⟨GI2, 6, none⟩ (.int .i64 r_6)).setCell ⟨GI2, 7, none⟩ (.int .i64 r_7)).setCell ⟨GI2, 8, none⟩ (.int .i64 r_8)).setCell ⟨GI2, 9, none⟩ (.bool r_9))).heap[k]? = w'.heap[k]? from by (with_reducible apply set_step_); (with_reducible apply set_step_); (with_reducible apply set_step_); (with_reducible apply set_step_); (with_reducible apply set_step_); (with_reducible apply set_step_); (with_reducible apply set_step_); (with_reducible apply set_step_); (with_reducible apply set_step_); (with_reducible apply set_step_); exact fun _ _ => rfl)
      have hnew_ := Aside0.mk (show (((((((((((w'.setCell ⟨GI2, 0, none⟩ (.int .i64 r_0)).setCell ⟨GI2, 1, none⟩ (.int .i64 r_1)).setCell ⟨GI2, 2, none⟩ (.int .i64 r_2)).setCell ⟨GI2, 3, none⟩ (.int .i64 r_3)).setCell ⟨GI2, 4, none⟩ (.int .i64 r_4)).setCell ⟨GI2, 5, none⟩ (.int .i64 r_5)).setCell ⟨GI2, 6, none⟩ (.int .i64 r_6)).setCell ⟨GI2, 7, none⟩ (.int .i64 r_7)).setCell ⟨GI2, 8, none⟩ (.int .i64 r_8)).setCell ⟨GI2, 9, none⟩ (.bool r_9))).heap[GI2]? = some (.cells #[.int .i64 r_0, .int .i64 r_1, .int .i64 r_2, .int .i64 r_3, .int .i64 r_4, .int .i64 r_5, .int .i64 r_6, .int .i64 r_7, .int .i64 r_8, .bool r_9] 23 (0, 0)) from by have h1_ := blk_set K2.out 0 (.int .i64 r_0); have h2_ := blk_set h1_ 1 (.int .i64 r_1); have h3_ := blk_set h2_ 2 (.int .i64 r_2); have h4_ := blk_set h3_ 3 (.int .i64 r_3); have h5_ := blk_set h4_ 4 (.int .i64 r_4); have h6_ := blk_set h5_ 5 (.int .i64 r_5); have h7_ := blk_set h6_ 6 (.int .i64 r_6); have h8_ := blk_set h7_ 7 (.int .i64 r_7); have h9_ := blk_set h8_ 8 (.int .i64 r_8); have h10_ := blk_set h9_ 9 (.bool r_9); simpa using h10_)
      refine skip_ (w1 := ?_) (by rfl) rfl ?_ ?_
      rotate_left
      · go_simp
        rfl
      refine hK.out _ _ ⟨vI, GI1, GI2, m4_, m5_, m6_, m9_, m10_, (by rw [ha.out]; exact putSel_none (v := undef) rfl), (by repeat (with_reducible first | exact D.out | refine below_set ?_ N2.out)), fun _ => R_sets_ RV.out K2.out (by decide) hst_.out, fun h0_ h1_ => (hst_.out _ (ne_t_ (Q_K1 h0_ h1_) K2.out (by decide))).trans (Q_K1 h0_ h1_), Q_N1, fun _ h1_ => absurd ((up_self b 12).symm.trans h1_) (by decide), Q_N2, fun h0_ => (hst_.out _ (ne_t_ (Q_E1 h0_) K2.out (by decide))).trans (Q_E1 h0_), fun _ => hnew_.out, Q_X4_, Q_X5_, Q_X6_, Q_X9_, Q_X10_⟩
    refine steps_cons ?_ ?_
    · rintro b a w' ⟨vI, GI1, GI2, m4_, m5_, m6_, m9_, m10_, ha, Q_D, Q_RV, Q_K1, Q_N1, Q_K2, Q_N2, Q_E1, Q_E2, Q_X4_, Q_X5_, Q_X6_, Q_X9_, Q_X10_⟩ hb_ hon hoff
      refine ⟨_, rfl, fun K hK => ?_⟩
      have e46 : a.tmps[46]? = some (.bool q) := by rw [ha]; exact putSel_on (e := (8, 46, .bool q)) 7 rfl rfl (hon 8 (by kernel_rfl)) rfl
      replace ha := Aside0.mk ha
      have D := Aside0.mk Q_D
      have RV := Aside0.mk (Q_RV (hon 4 (by kernel_rfl)))
      refine value_ (w1 := w') (v := .bool q) (by rfl) rfl ?_ ?_
      · go_simp
        (try simp only [i64_w])
        try rfl
      refine hK.out _ _ ⟨vI, GI1, GI2, m4_, m5_, m6_, m9_, m10_, (by rw [ha.out]; exact putSel_upk 10 hb_ rfl rfl rfl), Q_D, Q_RV, Q_K1, Q_N1, Q_K2, Q_N2, Q_E1, Q_E2, Q_X4_, Q_X5_, Q_X6_, Q_X9_, Q_X10_⟩
    exact steps_nil
  rintro b a w6 hall ⟨vI, GI1, GI2, m4_, m5_, m6_, m9_, m10_, ha, Q_D, Q_RV, Q_K1, Q_N1, Q_K2, Q_N2, Q_E1, Q_E2, Q_X4_, Q_X5_, Q_X6_, Q_X9_, Q_X10_⟩
  clear D
  have hb1_ := hall 1 (by kernel_rfl)
  have hb2_ := hall 2 (by kernel_rfl)
  have hb3_ := hall 3 (by kernel_rfl)
  have hb4_ := hall 4 (by kernel_rfl)
  have hb5_ := hall 5 (by kernel_rfl)
  have hb6_ := hall 6 (by kernel_rfl)
  have hb7_ := hall 7 (by kernel_rfl)
  have hb8_ := hall 8 (by kernel_rfl)
  have hb9_ := hall 9 (by kernel_rfl)
  have hb10_ := hall 10 (by kernel_rfl)
  have hb11_ := hall 11 (by kernel_rfl)
  have hb12_ := hall 12 (by kernel_rfl)
  have hb13_ := hall 13 (by kernel_rfl)
  subst ha
  obtain rfl := Q_X4_ hb4_
  obtain rfl := Q_X5_ hb5_
  obtain rfl := Q_X6_ hb6_
  obtain rfl := Q_X9_ hb9_
  obtain rfl := Q_X10_ hb10_
  simp only [putSel, hb1_, hb2_, hb3_, hb4_, hb5_, hb6_, hb7_, hb8_, hb9_, hb10_, hb11_, hb12_, hb13_, if_true, Act.put, List.setIfInBounds_toArray, List.set_cons_zero, List.set_cons_succ]
  have D := Aside0.mk Q_D
  clear Q_D
  have RV := Aside0.mk (Q_RV hb4_)
  clear Q_RV
  clear Q_K1
  have N1 := Aside0.mk (Q_N1 hb9_)
  clear Q_N1
  clear Q_K2
  have N2 := Aside0.mk (Q_N2 hb10_)
  clear Q_N2
  have E1 := Aside0.mk (Q_E1 hb11_)
  clear Q_E1
  have E2 := Aside0.mk (Q_E2 hb12_)
  clear Q_E2
  clear hall hb1_ hb2_ hb3_ hb4_ hb5_ hb6_ hb7_ hb8_ hb9_ hb10_ hb11_ hb12_ hb13_
  obtain ⟨AI, cI, ev_⟩ := Kd.R_slice RV.out
  subst ev_
  have UI := Aside0.mk (Kd.R_lower (Kd.R_mono (Kd.R_bound RV.out) (ok' := fun k_ => w5.heap.size ≤ k_ ∧ k_ < w6.heap.size) (fun k_ h_ => ⟨h_.2.1, h_.2.2.1⟩)) HB.out.size)
  clear RV
  have ZI := Aside0.mk D.out.size
  replace US := Aside0.mk (Kd.R_below US.out D.out)
  replace UX := Aside0.mk (Kd.R_below UX.out D.out)
  replace B4 := Aside0.mk (blk_below B4.out D.out)
  replace B5 := Aside0.mk (blk_below B5.out D.out)
  replace FS1 := Aside0.mk (blk_below FS1.out D.out)
  replace FS2 := Aside0.mk (blk_below FS2.out D.out)
  replace BX := Aside0.mk (blk_below BX.out D.out)
  replace HB := Aside0.mk (below_step HB.out D.out)
  clear D
  have FI1 := E1
  have FI2 := E2
  have NI1 := N1
  have NI2 := N2
  clear E1 E2 N1 N2
  try clear Q_X0_
  try clear Q_X1_
  try clear Q_X2_
  try clear Q_X3_
  try clear Q_X4_
  try clear Q_X5_
  try clear Q_X6_
  try clear Q_X7_
  try clear Q_X8_
  try clear Q_X9_
  try clear Q_X10_
  try clear Q_X11_
  try clear Q_X12_
  try clear Q_X13_
  have hx0 : w6.cell? ⟨GI1, 0, none⟩ = some (.slice AI M.length cI) := (blk_cell FI1.out 0).trans rfl
  have hy0 : w6.cell? ⟨GS1, 0, none⟩ = some (.slice AS M.length cS) := (blk_cell FS1.out 0).trans rfl
  go_wp2_with fail
  clear hx0 hy0
  refine (laws_eqMem.calls k _ _ M _ _ M true _ (Kd.R_reads' UI.out).2.2 (Kd.R_reads' UI.out).2.1 (Kd.R_reads' US.out).2.2 (Kd.R_reads' US.out).2.1 P5.out).mono ?_
  rintro e w7 ⟨rfl, hb⟩
  replace US := Aside0.mk (Kd.R_below US.out hb)
  replace UX := Aside0.mk (Kd.R_below UX.out hb)
  replace UI := Aside0.mk (Kd.R_below UI.out hb)
  replace B4 := Aside0.mk (blk_below B4.out hb)
  replace B5 := Aside0.mk (blk_below B5.out hb)
  replace FS1 := Aside0.mk (blk_below FS1.out hb)
  replace FS2 := Aside0.mk (blk_below FS2.out hb)
  replace BX := Aside0.mk (blk_below BX.out hb)
  replace FI1 := Aside0.mk (blk_below FI1.out hb)
  replace FI2 := Aside0.mk (blk_below FI2.out hb)
  replace HB := Aside0.mk (below_step HB.out hb)
  clear hb
  have hx0 : w7.cell? ⟨GI2, 0, none⟩ = some (.int .i64 r_0) := (blk_cell FI2.out 0).trans rfl
  have hx1 : w7.cell? ⟨GI2, 1, none⟩ = some (.int .i64 r_1) := (blk_cell FI2.out 1).trans rfl
  have hx2 : w7.cell? ⟨GI2, 2, none⟩ = some (.int .i64 r_2) := (blk_cell FI2.out 2).trans rfl
  have hx3 : w7.cell? ⟨GI2, 3, none⟩ = some (.int .i64 r_3) := (blk_cell FI2.out 3).trans rfl
  have hx4 : w7.cell? ⟨GI2, 4, none⟩ = some (.int .i64 r_4) := (blk_cell FI2.out 4).trans rfl
  have hx5 : w7.cell? ⟨GI2, 5, none⟩ = some (.int .i64 r_5) := (blk_cell FI2.out 5).trans rfl
  have hx6 : w7.cell? ⟨GI2, 6, none⟩ = some (.int .i64 r_6) := (blk_cell FI2.out 6).trans rfl
  have hx7 : w7.cell? ⟨GI2, 7, none⟩ = some (.int .i64 r_7) := (blk_cell FI2.out 7).trans rfl
  have hx8 : w7.cell? ⟨GI2, 8, none⟩ = some (.int .i64 r_8) := (blk_cell FI2.out 8).trans rfl
  have hx9 : w7.cell? ⟨GI2, 9, none⟩ = some (.bool r_9) := (blk_cell FI2.out 9).trans rfl
  have hy0 : w7.cell? ⟨GS2, 0, none⟩ = some (.int .i64 r_0) := (blk_cell FS2.out 0).trans rfl
  have hy1 : w7.cell? ⟨GS2, 1, none⟩ = some (.int .i64 r_1) := (blk_cell FS2.out 1).trans rfl
  have hy2 : w7.cell? ⟨GS2, 2, none⟩ = some (.int .i64 r_2) := (blk_cell FS2.out 2).trans rfl
  have hy3 : w7.cell? ⟨GS2, 3, none⟩ = some (.int .i64 r_3) := (blk_cell FS2.out 3).trans rfl
  have hy4 : w7.cell? ⟨GS2, 4, none⟩ = some (.int .i64 r_4) := (blk_cell FS2.out 4).trans rfl
  have hy5 : w7.cell? ⟨GS2, 5, none⟩ = some (.int .i64 r_5) := (blk_cell FS2.out 5).trans rfl
  have hy6 : w7.cell? ⟨GS2, 6, none⟩ = some (.int .i64 r_6) := (blk_cell FS2.out 6).trans rfl
  have hy7 : w7.cell? ⟨GS2, 7, none⟩ = some (.int .i64 r_7) := (blk_cell FS2.out 7).trans rfl
  have hy8 : w7.cell? ⟨GS2, 8, none⟩ = some (.int .i64 r_8) := (blk_cell FS2.out 8).trans rfl
  have hy9 : w7.cell? ⟨GS2, 9, none⟩ = some (.bool r_9) := (blk_cell FS2.out 9).trans rfl
  go_wp2_with fail
  clear hx0 hy0 hx1 hy1 hx2 hy2 hx3 hy3 hx4 hy4 hx5 hy5 hx6 hy6 hx7 hy7 hx8 hy8 hx9 hy9
  refine (laws_eqCall.calls r_0 r_1 r_2 r_3 r_4 r_5 r_6 r_7 r_8 r_9 r_0 r_1 r_2 r_3 r_4 r_5 r_6 r_7 r_8 r_9 true _ P7.out).mono ?_
  rintro e w8 ⟨rfl, hb⟩
  replace US := Aside0.mk (Kd.R_below US.out hb)
  replace UX := Aside0.mk (Kd.R_below UX.out hb)
  replace UI := Aside0.mk (Kd.R_below UI.out hb)
  replace B4 := Aside0.mk (blk_below B4.out hb)
  replace B5 := Aside0.mk (blk_below B5.out hb)
  replace FS1 := Aside0.mk (blk_below FS1.out hb)
  replace FS2 := Aside0.mk (blk_below FS2.out hb)
  replace BX := Aside0.mk (blk_below BX.out hb)
  replace FI1 := Aside0.mk (blk_below FI1.out hb)
  replace FI2 := Aside0.mk (blk_below FI2.out hb)
  replace HB := Aside0.mk (below_step HB.out hb)
  clear hb
  go_wp2_with fail
  replace B4 := Aside0.mk (blk_drew B4.out)
  replace B5 := Aside0.mk (blk_drew B5.out)
  replace FS1 := Aside0.mk (blk_drew FS1.out)
  replace FS2 := Aside0.mk (blk_drew FS2.out)
  replace BX := Aside0.mk (blk_drew BX.out)
  replace FI1 := Aside0.mk (blk_drew FI1.out)
  replace FI2 := Aside0.mk (blk_drew FI2.out)
  replace US := Aside0.mk (Kd.R_drew US.out)
  replace UX := Aside0.mk (Kd.R_drew UX.out)
  replace UI := Aside0.mk (Kd.R_drew UI.out)
  replace HB := Aside0.mk (below_drew1 HB.out)
  refine start_ (n := 5) (S := fun w' => w'.cell? ⟨w4.heap.size, 0, none⟩ = some (.slice Ax l.length cx) ∧ w'.cell? ⟨w.heap.size, 0, none⟩ = some (.slice A1 l.length c1)) (ds := []) #[false, false, false, false, false] (by kernel_rfl) rfl rfl ⟨(blk_cell BX.out 0).trans rfl, (blk_cell B4.out 0).trans rfl⟩ (fun hHeld => ?_)
  generalize w8.drew = w9 at B4 B5 FS1 FS2 BX FI1 FI2 US UX UI HB hHeld ⊢
  refine take_ (i := 0) (N := some 62) (v := ?_) (a' := ?_) #[true, false, false, false, false] rfl rfl (by kernel_rfl) (fun _ _ _ h => h) (Or.inl ⟨by rfl, ?_⟩) hHeld ?_ ?_
  rotate_left
  · rintro w' ⟨s0, s1⟩
    go_simp
    with_reducible rfl
  rotate_left
  · simp only [Act.put, List.setIfInBounds_toArray, List.set_cons_zero, List.set_cons_succ, i64_w, i32_w]
    rfl
  refine take_ (i := 1) (N := some 63) (v := ?_) (a' := ?_) #[true, true, false, false, false] rfl rfl (by kernel_rfl) (fun _ _ _ h => h) (Or.inl ⟨by rfl, ?_⟩) hHeld ?_ ?_
  rotate_left
  · rintro w' ⟨s0, s1⟩
    go_simp
    with_reducible rfl
  rotate_left
  · simp only [Act.put, List.setIfInBounds_toArray, List.set_cons_zero, List.set_cons_succ, i64_w, i32_w]
    rfl
  refine one_ (i := 2) (N := some 64) #[true, true, true, false, false] rfl rfl (by kernel_rfl) (by decide) (fun K hK => ?_)
  refine goes_ Try.func25 (by kernel_rfl) rfl #[.agg #[.slice A1 l.length c1]] (by rfl) rfl rfl (by (try simp only [List.map_toArray, List.map_cons, List.map_nil]); first | done | rfl | (simp only [List.length_drop, List.length_take]; rfl)) ?_
  with_reducible refine (laws_toMem.calls k _ _ l l _ ?side1 ?side2 P2.out).mono ?_
  (case side1 => exact Kd.C_below HR.out HB.out)
  (case side2 => exact HC.out)
  rintro e w10 ⟨u_, rfl, ru, hb⟩
  refine ⟨_, rfl, ?_⟩
  obtain ⟨At, ct, rfl⟩ := Kd.R_slice ru
  have UT := Aside0.mk ru
  clear ru
  replace US := Aside0.mk (Kd.R_below US.out hb)
  replace UX := Aside0.mk (Kd.R_below UX.out hb)
  replace UI := Aside0.mk (Kd.R_below UI.out hb)
  replace B4 := Aside0.mk (blk_below B4.out hb)
  replace B5 := Aside0.mk (blk_below B5.out hb)
  replace FS1 := Aside0.mk (blk_below FS1.out hb)
  replace FS2 := Aside0.mk (blk_below FS2.out hb)
  replace BX := Aside0.mk (blk_below BX.out hb)
  replace FI1 := Aside0.mk (blk_below FI1.out hb)
  replace FI2 := Aside0.mk (blk_below FI2.out hb)
  replace HB := Aside0.mk (below_step HB.out hb)
  clear hb
  refine hK.out _ _ ⟨(blk_cell BX.out 0).trans rfl, (blk_cell B4.out 0).trans rfl⟩ (fun hHeld => ?_)
  clear hK K
  refine norm_ (a' := ?_) ?_ ?_
  rotate_left
  · show Act.put _ (some 64) _ = _
    simp only [Act.put, List.setIfInBounds_toArray, List.set_cons_zero, List.set_cons_succ, i64_w, i32_w]
    rfl
  refine one_ (i := 3) (N := some 65) #[true, true, true, true, false] rfl rfl (by kernel_rfl) (by decide) (fun K hK => ?_)
  refine goes_ Try.func16 (by kernel_rfl) rfl #[.agg #[.slice Ax l.length cx], .agg #[.slice At l.length ct]] (by rfl) rfl rfl (by (try simp only [List.map_toArray, List.map_cons, List.map_nil]); first | done | rfl | (simp only [List.length_drop, List.length_take]; rfl)) ?_
  with_reducible refine (laws_eqMem.calls k _ _ l _ _ l true _ ?side1 ?side2 ?side3 ?side4 P6.out).mono ?_
  (case side1 => exact (Kd.R_reads' UX.out).2.2)
  (case side2 => exact (Kd.R_reads' UX.out).2.1)
  (case side3 => exact (Kd.R_reads' UT.out).2.2)
  (case side4 => exact (Kd.R_reads' UT.out).2.1)
  rintro e w11 ⟨rfl, hb⟩
  refine ⟨_, rfl, ?_⟩
  clear UT
  replace US := Aside0.mk (Kd.R_below US.out hb)
  replace UX := Aside0.mk (Kd.R_below UX.out hb)
  replace UI := Aside0.mk (Kd.R_below UI.out hb)
  replace B4 := Aside0.mk (blk_below B4.out hb)
  replace B5 := Aside0.mk (blk_below B5.out hb)
  replace FS1 := Aside0.mk (blk_below FS1.out hb)
  replace FS2 := Aside0.mk (blk_below FS2.out hb)
  replace BX := Aside0.mk (blk_below BX.out hb)
  replace FI1 := Aside0.mk (blk_below FI1.out hb)
  replace FI2 := Aside0.mk (blk_below FI2.out hb)
  replace HB := Aside0.mk (below_step HB.out hb)
  clear hb
  refine hK.out _ _ ⟨(blk_cell BX.out 0).trans rfl, (blk_cell B4.out 0).trans rfl⟩ (fun hHeld => ?_)
  clear hK K
  refine norm_ (a' := ?_) ?_ ?_
  rotate_left
  · show Act.put _ (some 65) _ = _
    simp only [Act.put, List.setIfInBounds_toArray, List.set_cons_zero, List.set_cons_succ, i64_w, i32_w]
    rfl
  refine pure_ (i := 4) (N := some 66) (v := ?_) (a' := ?_) #[true, true, true, true, true] rfl rfl (by kernel_rfl) (fun _ _ _ h => h) (Or.inl ⟨by rfl, ?_⟩) ?_ ?_
  rotate_left
  · intro w'
    go_simp
    with_reducible rfl
  rotate_left
  · simp only [Act.put, List.setIfInBounds_toArray, List.set_cons_zero, List.set_cons_succ, i64_w, i32_w]
    rfl
  refine done_ (by kernel_rfl) ?_
  clear hHeld
  have hx0 : w11.cell? ⟨w4.heap.size, 0, none⟩ = some (.slice Ax l.length cx) := (blk_cell BX.out 0).trans rfl
  go_wp2_with fail
  clear hx0
  refine (laws_markMem.calls k (fun k_ => w3.heap.size ≤ k_ ∧ k_ < w4.heap.size) (.slice Ax l.length cx) l 1 m0 LL w _ HB.out UX.out P8.out).mono ?_
  rintro e w12 ⟨rfl, rx, hB12, hk⟩
  clear rx UX BX
  replace HB := Aside0.mk hB12
  clear hB12
  replace US := Aside0.mk (keptI_ US.out hk (by have hz0_ := ZS.out; have hz1_ := L4.out; have hz2_ := L5.out; have hz3_ := LS1.out; have hz4_ := LS2.out; have hz5_ := L0.out; have hz6_ := ZX.out; have hz7_ := ZI.out; have hz8_ := Z5.out; have hz9_ := NI1.out; have hz10_ := NI2.out; omega))
  replace UI := Aside0.mk (keptI_ UI.out hk (by have hz0_ := ZS.out; have hz1_ := L4.out; have hz2_ := L5.out; have hz3_ := LS1.out; have hz4_ := LS2.out; have hz5_ := L0.out; have hz6_ := ZX.out; have hz7_ := ZI.out; have hz8_ := Z5.out; have hz9_ := NI1.out; have hz10_ := NI2.out; omega))
  replace B4 := Aside0.mk (blkI_ B4.out hk (by have hz0_ := ZS.out; have hz1_ := L4.out; have hz2_ := L5.out; have hz3_ := LS1.out; have hz4_ := LS2.out; have hz5_ := L0.out; have hz6_ := ZX.out; have hz7_ := ZI.out; have hz8_ := Z5.out; have hz9_ := NI1.out; have hz10_ := NI2.out; omega))
  replace B5 := Aside0.mk (blkI_ B5.out hk (by have hz0_ := ZS.out; have hz1_ := L4.out; have hz2_ := L5.out; have hz3_ := LS1.out; have hz4_ := LS2.out; have hz5_ := L0.out; have hz6_ := ZX.out; have hz7_ := ZI.out; have hz8_ := Z5.out; have hz9_ := NI1.out; have hz10_ := NI2.out; omega))
  replace FS1 := Aside0.mk (blkI_ FS1.out hk (by have hz0_ := ZS.out; have hz1_ := L4.out; have hz2_ := L5.out; have hz3_ := LS1.out; have hz4_ := LS2.out; have hz5_ := L0.out; have hz6_ := ZX.out; have hz7_ := ZI.out; have hz8_ := Z5.out; have hz9_ := NI1.out; have hz10_ := NI2.out; omega))
  replace FS2 := Aside0.mk (blkI_ FS2.out hk (by have hz0_ := ZS.out; have hz1_ := L4.out; have hz2_ := L5.out; have hz3_ := LS1.out; have hz4_ := LS2.out; have hz5_ := L0.out; have hz6_ := ZX.out; have hz7_ := ZI.out; have hz8_ := Z5.out; have hz9_ := NI1.out; have hz10_ := NI2.out; omega))
  replace FI1 := Aside0.mk (blkI_ FI1.out hk (by have hz0_ := ZS.out; have hz1_ := L4.out; have hz2_ := L5.out; have hz3_ := LS1.out; have hz4_ := LS2.out; have hz5_ := L0.out; have hz6_ := ZX.out; have hz7_ := ZI.out; have hz8_ := Z5.out; have hz9_ := NI1.out; have hz10_ := NI2.out; omega))
  replace FI2 := Aside0.mk (blkI_ FI2.out hk (by have hz0_ := ZS.out; have hz1_ := L4.out; have hz2_ := L5.out; have hz3_ := LS1.out; have hz4_ := LS2.out; have hz5_ := L0.out; have hz6_ := ZX.out; have hz7_ := ZI.out; have hz8_ := Z5.out; have hz9_ := NI1.out; have hz10_ := NI2.out; omega))
  clear hk
  have hx0 : w12.cell? ⟨GI1, 0, none⟩ = some (.slice AI M.length cI) := (blk_cell FI1.out 0).trans rfl
  have hy0 : w12.cell? ⟨GS1, 0, none⟩ = some (.slice AS M.length cS) := (blk_cell FS1.out 0).trans rfl
  go_wp2_with fail
  clear hx0 hy0
  refine (laws_eqMem.calls k _ _ M _ _ M true _ (Kd.R_reads' UI.out).2.2 (Kd.R_reads' UI.out).2.1 (Kd.R_reads' US.out).2.2 (Kd.R_reads' US.out).2.1 P5.out).mono ?_
  rintro e w13 ⟨rfl, hb⟩
  replace US := Aside0.mk (Kd.R_below US.out hb)
  replace UI := Aside0.mk (Kd.R_below UI.out hb)
  replace B4 := Aside0.mk (blk_below B4.out hb)
  replace B5 := Aside0.mk (blk_below B5.out hb)
  replace FS1 := Aside0.mk (blk_below FS1.out hb)
  replace FS2 := Aside0.mk (blk_below FS2.out hb)
  replace FI1 := Aside0.mk (blk_below FI1.out hb)
  replace FI2 := Aside0.mk (blk_below FI2.out hb)
  replace HB := Aside0.mk (below_step HB.out hb)
  clear hb
  have hx0 : w13.cell? ⟨GI2, 0, none⟩ = some (.int .i64 r_0) := (blk_cell FI2.out 0).trans rfl
  have hx1 : w13.cell? ⟨GI2, 1, none⟩ = some (.int .i64 r_1) := (blk_cell FI2.out 1).trans rfl
  have hx2 : w13.cell? ⟨GI2, 2, none⟩ = some (.int .i64 r_2) := (blk_cell FI2.out 2).trans rfl
  have hx3 : w13.cell? ⟨GI2, 3, none⟩ = some (.int .i64 r_3) := (blk_cell FI2.out 3).trans rfl
  have hx4 : w13.cell? ⟨GI2, 4, none⟩ = some (.int .i64 r_4) := (blk_cell FI2.out 4).trans rfl
  have hx5 : w13.cell? ⟨GI2, 5, none⟩ = some (.int .i64 r_5) := (blk_cell FI2.out 5).trans rfl
  have hx6 : w13.cell? ⟨GI2, 6, none⟩ = some (.int .i64 r_6) := (blk_cell FI2.out 6).trans rfl
  have hx7 : w13.cell? ⟨GI2, 7, none⟩ = some (.int .i64 r_7) := (blk_cell FI2.out 7).trans rfl
  have hx8 : w13.cell? ⟨GI2, 8, none⟩ = some (.int .i64 r_8) := (blk_cell FI2.out 8).trans rfl
  have hx9 : w13.cell? ⟨GI2, 9, none⟩ = some (.bool r_9) := (blk_cell FI2.out 9).trans rfl
  have hy0 : w13.cell? ⟨GS2, 0, none⟩ = some (.int .i64 r_0) := (blk_cell FS2.out 0).trans rfl
  have hy1 : w13.cell? ⟨GS2, 1, none⟩ = some (.int .i64 r_1) := (blk_cell FS2.out 1).trans rfl
  have hy2 : w13.cell? ⟨GS2, 2, none⟩ = some (.int .i64 r_2) := (blk_cell FS2.out 2).trans rfl
  have hy3 : w13.cell? ⟨GS2, 3, none⟩ = some (.int .i64 r_3) := (blk_cell FS2.out 3).trans rfl
  have hy4 : w13.cell? ⟨GS2, 4, none⟩ = some (.int .i64 r_4) := (blk_cell FS2.out 4).trans rfl
  have hy5 : w13.cell? ⟨GS2, 5, none⟩ = some (.int .i64 r_5) := (blk_cell FS2.out 5).trans rfl
  have hy6 : w13.cell? ⟨GS2, 6, none⟩ = some (.int .i64 r_6) := (blk_cell FS2.out 6).trans rfl
  have hy7 : w13.cell? ⟨GS2, 7, none⟩ = some (.int .i64 r_7) := (blk_cell FS2.out 7).trans rfl
  have hy8 : w13.cell? ⟨GS2, 8, none⟩ = some (.int .i64 r_8) := (blk_cell FS2.out 8).trans rfl
  have hy9 : w13.cell? ⟨GS2, 9, none⟩ = some (.bool r_9) := (blk_cell FS2.out 9).trans rfl
  go_wp2_with fail
  clear hx0 hy0 hx1 hy1 hx2 hy2 hx3 hy3 hx4 hy4 hx5 hy5 hx6 hy6 hx7 hy7 hx8 hy8 hx9 hy9
  refine (laws_eqCall.calls r_0 r_1 r_2 r_3 r_4 r_5 r_6 r_7 r_8 r_9 r_0 r_1 r_2 r_3 r_4 r_5 r_6 r_7 r_8 r_9 true _ P7.out).mono ?_
  rintro e w14 ⟨rfl, hb⟩
  replace US := Aside0.mk (Kd.R_below US.out hb)
  replace UI := Aside0.mk (Kd.R_below UI.out hb)
  replace B4 := Aside0.mk (blk_below B4.out hb)
  replace B5 := Aside0.mk (blk_below B5.out hb)
  replace FS1 := Aside0.mk (blk_below FS1.out hb)
  replace FS2 := Aside0.mk (blk_below FS2.out hb)
  replace FI1 := Aside0.mk (blk_below FI1.out hb)
  replace FI2 := Aside0.mk (blk_below FI2.out hb)
  replace HB := Aside0.mk (below_step HB.out hb)
  clear hb
  have hx0 : w14.cell? ⟨GI1, 0, none⟩ = some (.slice AI M.length cI) := (blk_cell FI1.out 0).trans rfl
  go_wp2_with fail
  clear hx0
  refine (laws_markMem.calls k (fun k_ => some k_ = (.slice AI M.length cI : Value).ownBlock ∧ (w5.heap.size ≤ k_ ∧ k_ < w6.heap.size)) (.slice AI M.length cI) M 1 m MM w _ HB.out (Kd.R_tight2 rfl UI.out) P9.out).mono ?_
  rintro e w15 ⟨rfl, ri, hB15, hk⟩
  replace HB := Aside0.mk hB15
  have hk2 := Kept.mono hk (S' := fun k_ => w5.heap.size ≤ k_ ∧ k_ < w6.heap.size) (fun _ h_ => h_.2)
  replace FI1 := Aside0.mk (blk_kept FI1.out hk (fun h_ => Kd.R_ne UI.out FI1.out (by decide) h_.1))
  clear UI FI2
  have UI := Aside0.mk (Kd.R_mono ri (ok' := fun _ => True) (fun _ _ => trivial))
  clear ri hB15 hk
  have HL := Aside0.mk (Kd.R_reads' UI.out).1
  replace US := Aside0.mk (keptI_ US.out hk2 (by have hz0_ := ZS.out; have hz1_ := L4.out; have hz2_ := L5.out; have hz3_ := LS1.out; have hz4_ := LS2.out; have hz5_ := L0.out; have hz6_ := ZX.out; have hz7_ := ZI.out; have hz8_ := Z5.out; have hz9_ := NI1.out; have hz10_ := NI2.out; omega))
  replace B4 := Aside0.mk (blkI_ B4.out hk2 (by have hz0_ := ZS.out; have hz1_ := L4.out; have hz2_ := L5.out; have hz3_ := LS1.out; have hz4_ := LS2.out; have hz5_ := L0.out; have hz6_ := ZX.out; have hz7_ := ZI.out; have hz8_ := Z5.out; have hz9_ := NI1.out; have hz10_ := NI2.out; omega))
  replace B5 := Aside0.mk (blkI_ B5.out hk2 (by have hz0_ := ZS.out; have hz1_ := L4.out; have hz2_ := L5.out; have hz3_ := LS1.out; have hz4_ := LS2.out; have hz5_ := L0.out; have hz6_ := ZX.out; have hz7_ := ZI.out; have hz8_ := Z5.out; have hz9_ := NI1.out; have hz10_ := NI2.out; omega))
  replace FS1 := Aside0.mk (blkI_ FS1.out hk2 (by have hz0_ := ZS.out; have hz1_ := L4.out; have hz2_ := L5.out; have hz3_ := LS1.out; have hz4_ := LS2.out; have hz5_ := L0.out; have hz6_ := ZX.out; have hz7_ := ZI.out; have hz8_ := Z5.out; have hz9_ := NI1.out; have hz10_ := NI2.out; omega))
  replace FS2 := Aside0.mk (blkI_ FS2.out hk2 (by have hz0_ := ZS.out; have hz1_ := L4.out; have hz2_ := L5.out; have hz3_ := LS1.out; have hz4_ := LS2.out; have hz5_ := L0.out; have hz6_ := ZX.out; have hz7_ := ZI.out; have hz8_ := Z5.out; have hz9_ := NI1.out; have hz10_ := NI2.out; omega))
  clear hk2
  have hx0 : w15.cell? ⟨GI1, 0, none⟩ = some (.slice AI M.length cI) := (blk_cell FI1.out 0).trans rfl
  go_wp2_with fail
  clear hx0
  have hq := laws_heldMem.calls k AI cI MM 1 m w15 (by have h_ := (Kd.R_reads' UI.out).2.2; exact h_) (by rw [← HL.out]; exact (Kd.R_reads' UI.out).2.1) P10.out
  rw [← HL.out] at hq
  refine hq.mono ?_
  clear hq
  rintro e w16 ⟨rfl, hb⟩
  replace US := Aside0.mk (Kd.R_below US.out hb)
  replace UI := Aside0.mk (Kd.R_below UI.out hb)
  replace B4 := Aside0.mk (blk_below B4.out hb)
  replace B5 := Aside0.mk (blk_below B5.out hb)
  replace FS1 := Aside0.mk (blk_below FS1.out hb)
  replace FS2 := Aside0.mk (blk_below FS2.out hb)
  replace FI1 := Aside0.mk (blk_below FI1.out hb)
  replace HB := Aside0.mk (below_step HB.out hb)
  clear hb
  go_wp2_with fail
  replace B4 := Aside0.mk (blk_drew B4.out)
  replace B5 := Aside0.mk (blk_drew B5.out)
  replace FS1 := Aside0.mk (blk_drew FS1.out)
  replace FS2 := Aside0.mk (blk_drew FS2.out)
  replace FI1 := Aside0.mk (blk_drew FI1.out)
  replace US := Aside0.mk (Kd.R_drew US.out)
  replace UI := Aside0.mk (Kd.R_drew UI.out)
  replace HB := Aside0.mk (below_drew1 HB.out)
  refine start_ (n := 15) (S := fun w' => True) (ds := []) #[false, false, false, false, false, false, false, false, false, false, false, false, false, false, false] (by kernel_rfl) rfl rfl trivial (fun hHeld => ?_); refine with_tabW laws_FnExactLiStep.tab24 laws_FnExactLiStep.bits24 (fun HT_ HW_ => ?_)
  generalize (w16).drew = w17 at B4 B5 FS1 FS2 FI1 US UI HB hHeld ⊢
  have D := Aside0.mk (Below.refl w17.heap.size w17)
  refine pure_ (i := 0) (N := some 101) (v := ?_) (a' := ?_) #[true, false, false, false, false, false, false, false, false, false, false, false, false, false, false] rfl rfl (any_of HT_.out (by kernel_rfl)) (fun _ _ _ h => h) (Or.inl ⟨by rfl, ?_⟩) ?_ ?_
  rotate_left
  · intro w'
    go_simp
    with_reducible rfl
  rotate_left
  · simp only [Act.put, List.setIfInBounds_toArray, List.set_cons_zero, List.set_cons_succ, i64_w, i32_w]
    rfl
  refine inv_at [1, 2, 3, 4, 5, 6, 7, 8, 9, 10, 11, 12, 13, 14] (fun a0_ b a w' => ∃ (u_ : Value) (vJ : Value) (GJ1 : Nat) (GJ2 : Nat) (m2_ : Value) (m5_ : Value) (m6_ : Value) (m7_ : Value) (m10_ : Value) (m11_ : Value), a = putSel a0_ b [(1, 102, .agg #[.slice A1 l.length c1]), (2, 103, m2_), (3, 104, .agg #[.int .i64 a_0, .int .i64 a_1, .int .i64 a_2, .int .i64 a_3, .int .i64 a_4, .int .i64 a_5, .int .i64 a_6, .int .i64 a_7, .int .i64 a_8, .bool a_9]), (4, 105, .agg #[.int .i64 a_0, .int .i64 a_1, .int .i64 a_2, .int .i64 a_3, .int .i64 a_4, .int .i64 a_5, .int .i64 a_6, .int .i64 a_7, .int .i64 a_8, .bool a_9]), (5, 106, m5_), (6, 100, m6_), (7, 107, m7_), (8, 108, .agg #[.int .i64 r_0, .int .i64 r_1, .int .i64 r_2, .int .i64 r_3, .int .i64 r_4, .int .i64 r_5, .int .i64 r_6, .int .i64 r_7, .int .i64 r_8, .bool r_9]), (9, 109, .bool q), (10, 18, m10_), (11, 19, m11_), (14, 20, .bool q)] ∧ (Below w17.heap.size w17 w') ∧ (b 2 = true → Kd.R (Kd.int .i64) 3 w' w17.heap.size (fun _ => True) u_ l) ∧ (b 5 = true → Kd.R (Kd.int .i64) 3 w' w17.heap.size (fun _ => True) vJ M) ∧ (b 10 = true → b 12 = false → w'.heap[GJ1]? = some (.cells #[.slice none 0 0] 29 (0, 0))) ∧ (b 10 = true → w17.heap.size ≤ GJ1) ∧ (b 11 = true → b 13 = false → w'.heap[GJ2]? = some (.cells #[.int .i64 0, .int .i64 0, .int .i64 0, .int .i64 0, .int .i64 0, .int .i64 0, .int .i64 0, .int .i64 0, .int .i64 0, .bool false] 23 (0, 0))) ∧ (b 11 = true → w17.heap.size ≤ GJ2) ∧ (b 12 = true → w'.heap[GJ1]? = some (.cells #[vJ] 29 (0, 0))) ∧ (b 13 = true → w'.heap[GJ2]? = some (.cells #[.int .i64 r_0, .int .i64 r_1, .int .i64 r_2, .int .i64 r_3, .int .i64 r_4, .int .i64 r_5, .int .i64 r_6, .int .i64 r_7, .int .i64 r_8, .bool r_9] 23 (0, 0))) ∧ (b 2 = true → (m2_ : Value) = .agg #[u_]) ∧ (b 5 = true → (m5_ : Value) = .tuple #[.agg #[vJ], .agg #[.int .i64 r_0, .int .i64 r_1, .int .i64 r_2, .int .i64 r_3, .int .i64 r_4, .int .i64 r_5, .int .i64 r_6, .int .i64 r_7, .int .i64 r_8, .bool r_9], .bool q]) ∧ (b 6 = true → (m6_ : Value) = .tuple #[.agg #[vJ], .agg #[.int .i64 r_0, .int .i64 r_1, .int .i64 r_2, .int .i64 r_3, .int .i64 r_4, .int .i64 r_5, .int .i64 r_6, .int .i64 r_7, .int .i64 r_8, .bool r_9], .bool q]) ∧ (b 7 = true → (m7_ : Value) = .agg #[vJ]) ∧ (b 10 = true → (m10_ : Value) = .pointer (some ⟨GJ1, 0, none⟩)) ∧ (b 11 = true → (m11_ : Value) = .pointer (some ⟨GJ2, 0, none⟩))) HT_.out HW_.out (by kernel_rfl) (by kernel_rfl) ?_ ?_ ?_
  · exact ⟨.bool false, .bool false, 0, 0, .bool false, .bool false, .bool false, .bool false, .bool false, .bool false, by simp only [putSel, Bool.false_eq_true, if_false], D.out, fun h_ => absurd h_ (by decide), fun h_ => absurd h_ (by decide), fun h_ => absurd h_ (by decide), fun h_ => absurd h_ (by decide), fun h_ => absurd h_ (by decide), fun h_ => absurd h_ (by decide), fun h_ => absurd h_ (by decide), fun h_ => absurd h_ (by decide), fun h_ => absurd h_ (by decide), fun h_ => absurd h_ (by decide), fun h_ => absurd h_ (by decide), fun h_ => absurd h_ (by decide), fun h_ => absurd h_ (by decide), fun h_ => absurd h_ (by decide)⟩
  · skip
    clear D
    refine steps_cons ?_ ?_
    · rintro b a w' ⟨u_, vJ, GJ1, GJ2, m2_, m5_, m6_, m7_, m10_, m11_, ha, Q_D, Q_RM, Q_RV, Q_K1, Q_N1, Q_K2, Q_N2, Q_E1, Q_E2, Q_X2_, Q_X5_, Q_X6_, Q_X7_, Q_X10_, Q_X11_⟩ hb_ hon hoff
      refine ⟨_, rfl, fun K hK => ?_⟩
      have e4 : a.tmps[4]? = some (.pointer (some ⟨w.heap.size, 0, none⟩)) := by rw [ha]; exact (putSel_off rfl).trans rfl
      replace ha := Aside0.mk ha
      have D := Aside0.mk Q_D
      have hc0_ : w'.cell? ⟨w.heap.size, 0, none⟩ = some (.slice A1 l.length c1) := (blk_cell (blk_below B4.out D.out) 0).trans rfl
      refine value_ (w1 := w') (v := .agg #[.slice A1 l.length c1]) (by rfl) rfl ?_ ?_
      · go_simp
        (try simp only [i64_w])
        try rfl
      refine hK.out _ _ ⟨u_, vJ, GJ1, GJ2, m2_, m5_, m6_, m7_, m10_, m11_, (by rw [ha.out]; exact putSel_upk 0 hb_ rfl rfl rfl), Q_D, fun h0_ => absurd ((hoff 2 (by kernel_rfl)).symm.trans h0_) (by decide), fun h0_ => absurd ((hoff 5 (by kernel_rfl)).symm.trans h0_) (by decide), Q_K1, Q_N1, Q_K2, Q_N2, fun h0_ => absurd ((hoff 12 (by kernel_rfl)).symm.trans h0_) (by decide), fun h0_ => absurd ((hoff 13 (by kernel_rfl)).symm.trans h0_) (by decide), fun h0_ => absurd ((hoff 2 (by kernel_rfl)).symm.trans h0_) (by decide), fun h0_ => absurd ((hoff 5 (by kernel_rfl)).symm.trans h0_) (by decide), fun h0_ => absurd ((hoff 6 (by kernel_rfl)).symm.trans h0_) (by decide), fun h0_ => absurd ((hoff 7 (by kernel_rfl)).symm.trans h0_) (by decide), Q_X10_, Q_X11_⟩
    refine steps_cons ?_ ?_
    · rintro b a w' ⟨u_, vJ, GJ1, GJ2, m2_, m5_, m6_, m7_, m10_, m11_, ha, Q_D, Q_RM, Q_RV, Q_K1, Q_N1, Q_K2, Q_N2, Q_E1, Q_E2, Q_X2_, Q_X5_, Q_X6_, Q_X7_, Q_X10_, Q_X11_⟩ hb_ hon hoff
      refine ⟨_, rfl, fun K hK => ?_⟩
      have e102 : a.tmps[102]? = some (.agg #[.slice A1 l.length c1]) := by rw [ha]; exact putSel_on (e := (1, 102, .agg #[.slice A1 l.length c1])) 0 rfl rfl (hon 1 (by kernel_rfl)) rfl
      replace ha := Aside0.mk ha
      have D := Aside0.mk Q_D
      refine goes_ Try.func25 (by kernel_rfl) rfl #[.agg #[.slice A1 l.length c1]] (by rfl) rfl rfl (by first | (simp only [List.map_toArray, List.map_cons, List.map_nil, Act.eval, Array.getD_eq_getD_getElem?, Option.getD_some, e102]; done) | (simp only [List.map_toArray, List.map_cons, List.map_nil, Act.eval, Array.getD_eq_getD_getElem?, Option.getD_some, e102]; rfl)) ?_
      with_reducible refine (laws_toMem.calls k _ _ l l _ ?side1 ?side2 P2.out).mono ?_
      (case side1 => exact Kd.C_below HR.out (below_step HB.out D.out))
      (case side2 => exact HC.out)
      rintro e w2_ ⟨u_, rfl, ho0, hb⟩
      refine ⟨_, rfl, ?_⟩
      refine hK.out _ _ ⟨u_, vJ, GJ1, GJ2, (.agg #[u_]), m5_, m6_, m7_, m10_, m11_, (by rw [ha.out]; exact putSel_upk 1 hb_ rfl rfl rfl), below_step D.out hb, fun _ => Kd.R_lower ho0 D.out.size, fun h0_ => absurd ((hoff 5 (by kernel_rfl)).symm.trans h0_) (by decide), fun h0_ h1_ => blk_below (Q_K1 h0_ h1_) hb, Q_N1, fun h0_ h1_ => blk_below (Q_K2 h0_ h1_) hb, Q_N2, fun h0_ => absurd ((hoff 12 (by kernel_rfl)).symm.trans h0_) (by decide), fun h0_ => absurd ((hoff 13 (by kernel_rfl)).symm.trans h0_) (by decide), fun _ => rfl, fun h0_ => absurd ((hoff 5 (by kernel_rfl)).symm.trans h0_) (by decide), fun h0_ => absurd ((hoff 6 (by kernel_rfl)).symm.trans h0_) (by decide), fun h0_ => absurd ((hoff 7 (by kernel_rfl)).symm.trans h0_) (by decide), Q_X10_, Q_X11_⟩
    refine steps_cons ?_ ?_
    · rintro b a w' ⟨u_, vJ, GJ1, GJ2, m2_, m5_, m6_, m7_, m10_, m11_, ha, Q_D, Q_RM, Q_RV, Q_K1, Q_N1, Q_K2, Q_N2, Q_E1, Q_E2, Q_X2_, Q_X5_, Q_X6_, Q_X7_, Q_X10_, Q_X11_⟩ hb_ hon hoff
      refine ⟨_, rfl, fun K hK => ?_⟩
      have e5 : a.tmps[5]? = some (.pointer (some ⟨(w.heap.size + 1), 0, none⟩)) := by rw [ha]; exact (putSel_off rfl).trans rfl
      replace ha := Aside0.mk ha
      have D := Aside0.mk Q_D
      have hc0_ : w'.cell? ⟨(w.heap.size + 1), 0, none⟩ = some (.int .i64 a_0) := (blk_cell (blk_below B5.out D.out) 0).trans rfl
      have hc1_ : w'.cell? ⟨(w.heap.size + 1), 1, none⟩ = some (.int .i64 a_1) := (blk_cell (blk_below B5.out D.out) 1).trans rfl
      have hc2_ : w'.cell? ⟨(w.heap.size + 1), 2, none⟩ = some (.int .i64 a_2) := (blk_cell (blk_below B5.out D.out) 2).trans rfl
      have hc3_ : w'.cell? ⟨(w.heap.size + 1), 3, none⟩ = some (.int .i64 a_3) := (blk_cell (blk_below B5.out D.out) 3).trans rfl
      have hc4_ : w'.cell? ⟨(w.heap.size + 1), 4, none⟩ = some (.int .i64 a_4) := (blk_cell (blk_below B5.out D.out) 4).trans rfl
      have hc5_ : w'.cell? ⟨(w.heap.size + 1), 5, none⟩ = some (.int .i64 a_5) := (blk_cell (blk_below B5.out D.out) 5).trans rfl
      have hc6_ : w'.cell? ⟨(w.heap.size + 1), 6, none⟩ = some (.int .i64 a_6) := (blk_cell (blk_below B5.out D.out) 6).trans rfl
      have hc7_ : w'.cell? ⟨(w.heap.size + 1), 7, none⟩ = some (.int .i64 a_7) := (blk_cell (blk_below B5.out D.out) 7).trans rfl
      have hc8_ : w'.cell? ⟨(w.heap.size + 1), 8, none⟩ = some (.int .i64 a_8) := (blk_cell (blk_below B5.out D.out) 8).trans rfl
      have hc9_ : w'.cell? ⟨(w.heap.size + 1), 9, none⟩ = some (.bool a_9) := (blk_cell (blk_below B5.out D.out) 9).trans rfl
      refine value_ (w1 := w') (v := .agg #[.int .i64 a_0, .int .i64 a_1, .int .i64 a_2, .int .i64 a_3, .int .i64 a_4, .int .i64 a_5, .int .i64 a_6, .int .i64 a_7, .int .i64 a_8, .bool a_9]) (by rfl) rfl ?_ ?_
      · go_simp
        (try simp only [i64_w])
        try rfl
      refine hK.out _ _ ⟨u_, vJ, GJ1, GJ2, m2_, m5_, m6_, m7_, m10_, m11_, (by rw [ha.out]; exact putSel_upk 2 hb_ rfl rfl rfl), Q_D, Q_RM, fun h0_ => absurd ((hoff 5 (by kernel_rfl)).symm.trans h0_) (by decide), Q_K1, Q_N1, Q_K2, Q_N2, fun h0_ => absurd ((hoff 12 (by kernel_rfl)).symm.trans h0_) (by decide), fun h0_ => absurd ((hoff 13 (by kernel_rfl)).symm.trans h0_) (by decide), Q_X2_, fun h0_ => absurd ((hoff 5 (by kernel_rfl)).symm.trans h0_) (by decide), fun h0_ => absurd ((hoff 6 (by kernel_rfl)).symm.trans h0_) (by decide), fun h0_ => absurd ((hoff 7 (by kernel_rfl)).symm.trans h0_) (by decide), Q_X10_, Q_X11_⟩
    refine steps_cons ?_ ?_
    · rintro b a w' ⟨u_, vJ, GJ1, GJ2, m2_, m5_, m6_, m7_, m10_, m11_, ha, Q_D, Q_RM, Q_RV, Q_K1, Q_N1, Q_K2, Q_N2, Q_E1, Q_E2, Q_X2_, Q_X5_, Q_X6_, Q_X7_, Q_X10_, Q_X11_⟩ hb_ hon hoff
      refine ⟨_, rfl, fun K hK => ?_⟩
      have e104 : a.tmps[104]? = some (.agg #[.int .i64 a_0, .int .i64 a_1, .int .i64 a_2, .int .i64 a_3, .int .i64 a_4, .int .i64 a_5, .int .i64 a_6, .int .i64 a_7, .int .i64 a_8, .bool a_9]) := by rw [ha]; exact putSel_on (e := (3, 104, .agg #[.int .i64 a_0, .int .i64 a_1, .int .i64 a_2, .int .i64 a_3, .int .i64 a_4, .int .i64 a_5, .int .i64 a_6, .int .i64 a_7, .int .i64 a_8, .bool a_9])) 2 rfl rfl (hon 3 (by kernel_rfl)) rfl
      replace ha := Aside0.mk ha
      have D := Aside0.mk Q_D
      refine goes_ Try.func20 (by kernel_rfl) rfl #[.agg #[.int .i64 a_0, .int .i64 a_1, .int .i64 a_2, .int .i64 a_3, .int .i64 a_4, .int .i64 a_5, .int .i64 a_6, .int .i64 a_7, .int .i64 a_8, .bool a_9]] (by rfl) rfl rfl (by first | (simp only [List.map_toArray, List.map_cons, List.map_nil, Act.eval, Array.getD_eq_getD_getElem?, Option.getD_some, e104]; done) | (simp only [List.map_toArray, List.map_cons, List.map_nil, Act.eval, Array.getD_eq_getD_getElem?, Option.getD_some, e104]; rfl)) ?_
      with_reducible refine (laws_toCall.calls a_0 a_1 a_2 a_3 a_4 a_5 a_6 a_7 a_8 a_9 a_0 a_1 a_2 a_3 a_4 a_5 a_6 a_7 a_8 a_9 _ P0.out).mono ?_
      rintro e w2_ ⟨rfl, hb⟩
      refine ⟨_, rfl, ?_⟩
      refine hK.out _ _ ⟨u_, vJ, GJ1, GJ2, m2_, m5_, m6_, m7_, m10_, m11_, (by rw [ha.out]; exact putSel_upk 3 hb_ rfl rfl rfl), below_step D.out hb, fun h0_ => Kd.R_below (Q_RM h0_) hb, fun h0_ => absurd ((hoff 5 (by kernel_rfl)).symm.trans h0_) (by decide), fun h0_ h1_ => blk_below (Q_K1 h0_ h1_) hb, Q_N1, fun h0_ h1_ => blk_below (Q_K2 h0_ h1_) hb, Q_N2, fun h0_ => absurd ((hoff 12 (by kernel_rfl)).symm.trans h0_) (by decide), fun h0_ => absurd ((hoff 13 (by kernel_rfl)).symm.trans h0_) (by decide), Q_X2_, fun h0_ => absurd ((hoff 5 (by kernel_rfl)).symm.trans h0_) (by decide), fun h0_ => absurd ((hoff 6 (by kernel_rfl)).symm.trans h0_) (by decide), fun h0_ => absurd ((hoff 7 (by kernel_rfl)).symm.trans h0_) (by decide), Q_X10_, Q_X11_⟩
    refine steps_cons ?_ ?_
    · rintro b a w' ⟨u_, vJ, GJ1, GJ2, m2_, m5_, m6_, m7_, m10_, m11_, ha, Q_D, Q_RM, Q_RV, Q_K1, Q_N1, Q_K2, Q_N2, Q_E1, Q_E2, Q_X2_, Q_X5_, Q_X6_, Q_X7_, Q_X10_, Q_X11_⟩ hb_ hon hoff
      refine ⟨_, rfl, fun K hK => ?_⟩
      have e101 : a.tmps[101]? = some (.int .i64 n) := by rw [ha]; exact (putSel_off rfl).trans rfl
      have e103 : a.tmps[103]? = some (m2_) := by rw [ha]; exact putSel_on (e := (2, 103, m2_)) 1 rfl rfl (hon 2 (by kernel_rfl)) rfl
      rw [Q_X2_ (hon 2 (by kernel_rfl))] at e103
      have e105 : a.tmps[105]? = some (.agg #[.int .i64 a_0, .int .i64 a_1, .int .i64 a_2, .int .i64 a_3, .int .i64 a_4, .int .i64 a_5, .int .i64 a_6, .int .i64 a_7, .int .i64 a_8, .bool a_9]) := by rw [ha]; exact putSel_on (e := (4, 105, .agg #[.int .i64 a_0, .int .i64 a_1, .int .i64 a_2, .int .i64 a_3, .int .i64 a_4, .int .i64 a_5, .int .i64 a_6, .int .i64 a_7, .int .i64 a_8, .bool a_9])) 3 rfl rfl (hon 4 (by kernel_rfl)) rfl
      replace ha := Aside0.mk ha
      have D := Aside0.mk Q_D
      have RM := Aside0.mk (Q_RM (hon 2 (by kernel_rfl)))
      obtain ⟨Am_, cm_, em_⟩ := Kd.R_slice RM.out
      subst em_
      refine goes_ Try.func26 (by kernel_rfl) rfl #[.int .i64 n, .agg #[.slice Am_ l.length cm_], .agg #[.int .i64 a_0, .int .i64 a_1, .int .i64 a_2, .int .i64 a_3, .int .i64 a_4, .int .i64 a_5, .int .i64 a_6, .int .i64 a_7, .int .i64 a_8, .bool a_9]] (by rfl) rfl rfl (by first | (simp only [List.map_toArray, List.map_cons, List.map_nil, Act.eval, Array.getD_eq_getD_getElem?, Option.getD_some, e101, e103, e105]; done) | (simp only [List.map_toArray, List.map_cons, List.map_nil, Act.eval, Array.getD_eq_getD_getElem?, Option.getD_some, e101, e103, e105]; rfl)) ?_
      with_reducible refine (impl_LiStep.calls k n _ _ l a_0 a_1 a_2 a_3 a_4 a_5 a_6 a_7 a_8 a_9 M r_0 r_1 r_2 r_3 r_4 r_5 r_6 r_7 r_8 r_9 q _ ?side1 ?side2 P4.out).mono ?_
      (case side1 => exact (Kd.R_reads' RM.out).2.2)
      (case side2 => exact (Kd.R_reads' RM.out).2.1)
      rintro e w2_ ⟨vJ, rfl, ho0, hb⟩
      refine ⟨_, rfl, ?_⟩
      refine hK.out _ _ ⟨.slice Am_ l.length cm_, vJ, GJ1, GJ2, m2_, (.tuple #[.agg #[vJ], .agg #[.int .i64 r_0, .int .i64 r_1, .int .i64 r_2, .int .i64 r_3, .int .i64 r_4, .int .i64 r_5, .int .i64 r_6, .int .i64 r_7, .int .i64 r_8, .bool r_9], .bool q]), m6_, m7_, m10_, m11_, (by rw [ha.out]; exact putSel_upk 4 hb_ rfl rfl rfl), below_step D.out hb, fun _ => Kd.R_below RM.out hb, fun _ => Kd.R_lower ho0 D.out.size, fun h0_ h1_ => blk_below (Q_K1 h0_ h1_) hb, Q_N1, fun h0_ h1_ => blk_below (Q_K2 h0_ h1_) hb, Q_N2, fun h0_ => absurd ((hoff 12 (by kernel_rfl)).symm.trans h0_) (by decide), fun h0_ => absurd ((hoff 13 (by kernel_rfl)).symm.trans h0_) (by decide), Q_X2_, fun _ => rfl, fun h0_ => absurd ((hoff 6 (by kernel_rfl)).symm.trans h0_) (by decide), fun h0_ => absurd ((hoff 7 (by kernel_rfl)).symm.trans h0_) (by decide), Q_X10_, Q_X11_⟩
    refine steps_cons ?_ ?_
    · rintro b a w' ⟨u_, vJ, GJ1, GJ2, m2_, m5_, m6_, m7_, m10_, m11_, ha, Q_D, Q_RM, Q_RV, Q_K1, Q_N1, Q_K2, Q_N2, Q_E1, Q_E2, Q_X2_, Q_X5_, Q_X6_, Q_X7_, Q_X10_, Q_X11_⟩ hb_ hon hoff
      refine ⟨_, rfl, fun K hK => ?_⟩
      have e106 : a.tmps[106]? = some (m5_) := by rw [ha]; exact putSel_on (e := (5, 106, m5_)) 4 rfl rfl (hon 5 (by kernel_rfl)) rfl
      rw [Q_X5_ (hon 5 (by kernel_rfl))] at e106
      replace ha := Aside0.mk ha
      have D := Aside0.mk Q_D
      have RM := Aside0.mk (Q_RM (hon 2 (by kernel_rfl)))
      have RV := Aside0.mk (Q_RV (hon 5 (by kernel_rfl)))
      refine value_ (w1 := w') (v := .tuple #[.agg #[vJ], .agg #[.int .i64 r_0, .int .i64 r_1, .int .i64 r_2, .int .i64 r_3, .int .i64 r_4, .int .i64 r_5, .int .i64 r_6, .int .i64 r_7, .int .i64 r_8, .bool r_9], .bool q]) (by rfl) rfl ?_ ?_
      · go_simp
        (try simp only [i64_w])
        try rfl
      refine hK.out _ _ ⟨u_, vJ, GJ1, GJ2, m2_, m5_, (.tuple #[.agg #[vJ], .agg #[.int .i64 r_0, .int .i64 r_1, .int .i64 r_2, .int .i64 r_3, .int .i64 r_4, .int .i64 r_5, .int .i64 r_6, .int .i64 r_7, .int .i64 r_8, .bool r_9], .bool q]), m7_, m10_, m11_, (by rw [ha.out]; exact putSel_upk 5 hb_ rfl rfl rfl), Q_D, Q_RM, Q_RV, Q_K1, Q_N1, Q_K2, Q_N2, fun h0_ => absurd ((hoff 12 (by kernel_rfl)).symm.trans h0_) (by decide), fun h0_ => absurd ((hoff 13 (by kernel_rfl)).symm.trans h0_) (by decide), Q_X2_, Q_X5_, fun _ => rfl, fun h0_ => absurd ((hoff 7 (by kernel_rfl)).symm.trans h0_) (by decide), Q_X10_, Q_X11_⟩
    refine steps_cons ?_ ?_
    · rintro b a w' ⟨u_, vJ, GJ1, GJ2, m2_, m5_, m6_, m7_, m10_, m11_, ha, Q_D, Q_RM, Q_RV, Q_K1, Q_N1, Q_K2, Q_N2, Q_E1, Q_E2, Q_X2_, Q_X5_, Q_X6_, Q_X7_, Q_X10_, Q_X11_⟩ hb_ hon hoff
      refine ⟨_, rfl, fun K hK => ?_⟩
      have e100 : a.tmps[100]? = some (m6_) := by rw [ha]; exact putSel_on (e := (6, 100, m6_)) 5 rfl rfl (hon 6 (by kernel_rfl)) rfl
      rw [Q_X6_ (hon 6 (by kernel_rfl))] at e100
      replace ha := Aside0.mk ha
      have D := Aside0.mk Q_D
      have RM := Aside0.mk (Q_RM (hon 2 (by kernel_rfl)))
      have RV := Aside0.mk (Q_RV (hon 5 (by kernel_rfl)))
      refine value_ (w1 := w') (v := .agg #[vJ]) (by rfl) rfl ?_ ?_
      · go_simp
        (try simp only [i64_w])
        try rfl
      refine hK.out _ _ ⟨u_, vJ, GJ1, GJ2, m2_, m5_, m6_, (.agg #[vJ]), m10_, m11_, (by rw [ha.out]; exact putSel_upk 6 hb_ rfl rfl rfl), Q_D, Q_RM, Q_RV, Q_K1, Q_N1, Q_K2, Q_N2, fun h0_ => absurd ((hoff 12 (by kernel_rfl)).symm.trans h0_) (by decide), Q_E2, Q_X2_, Q_X5_, Q_X6_, fun _ => rfl, Q_X10_, Q_X11_⟩
    refine steps_cons ?_ ?_
    · rintro b a w' ⟨u_, vJ, GJ1, GJ2, m2_, m5_, m6_, m7_, m10_, m11_, ha, Q_D, Q_RM, Q_RV, Q_K1, Q_N1, Q_K2, Q_N2, Q_E1, Q_E2, Q_X2_, Q_X5_, Q_X6_, Q_X7_, Q_X10_, Q_X11_⟩ hb_ hon hoff
      refine ⟨_, rfl, fun K hK => ?_⟩
      have e100 : a.tmps[100]? = some (m6_) := by rw [ha]; exact putSel_on (e := (6, 100, m6_)) 5 rfl rfl (hon 6 (by kernel_rfl)) rfl
      rw [Q_X6_ (hon 6 (by kernel_rfl))] at e100
      replace ha := Aside0.mk ha
      have D := Aside0.mk Q_D
      have RM := Aside0.mk (Q_RM (hon 2 (by kernel_rfl)))
      have RV := Aside0.mk (Q_RV (hon 5 (by kernel_rfl)))
      refine value_ (w1 := w') (v := .agg #[.int .i64 r_0, .int .i64 r_1, .int .i64 r_2, .int .i64 r_3, .int .i64 r_4, .int .i64 r_5, .int .i64 r_6, .int .i64 r_7, .int .i64 r_8, .bool r_9]) (by rfl) rfl ?_ ?_
      · go_simp
        (try simp only [i64_w])
        try rfl
      refine hK.out _ _ ⟨u_, vJ, GJ1, GJ2, m2_, m5_, m6_, m7_, m10_, m11_, (by rw [ha.out]; exact putSel_upk 7 hb_ rfl rfl rfl), Q_D, Q_RM, Q_RV, Q_K1, Q_N1, Q_K2, Q_N2, Q_E1, fun h0_ => absurd ((hoff 13 (by kernel_rfl)).symm.trans h0_) (by decide), Q_X2_, Q_X5_, Q_X6_, Q_X7_, Q_X10_, Q_X11_⟩
    refine steps_cons ?_ ?_
    · rintro b a w' ⟨u_, vJ, GJ1, GJ2, m2_, m5_, m6_, m7_, m10_, m11_, ha, Q_D, Q_RM, Q_RV, Q_K1, Q_N1, Q_K2, Q_N2, Q_E1, Q_E2, Q_X2_, Q_X5_, Q_X6_, Q_X7_, Q_X10_, Q_X11_⟩ hb_ hon hoff
      refine ⟨_, rfl, fun K hK => ?_⟩
      have e100 : a.tmps[100]? = some (m6_) := by rw [ha]; exact putSel_on (e := (6, 100, m6_)) 5 rfl rfl (hon 6 (by kernel_rfl)) rfl
      rw [Q_X6_ (hon 6 (by kernel_rfl))] at e100
      replace ha := Aside0.mk ha
      have D := Aside0.mk Q_D
      have RM := Aside0.mk (Q_RM (hon 2 (by kernel_rfl)))
      have RV := Aside0.mk (Q_RV (hon 5 (by kernel_rfl)))
      refine value_ (w1 := w') (v := .bool q) (by rfl) rfl ?_ ?_
      · go_simp
        (try simp only [i64_w])
        try rfl
      refine hK.out _ _ ⟨u_, vJ, GJ1, GJ2, m2_, m5_, m6_, m7_, m10_, m11_, (by rw [ha.out]; exact putSel_upk 8 hb_ rfl rfl rfl), Q_D, Q_RM, Q_RV, Q_K1, Q_N1, Q_K2, Q_N2, Q_E1, Q_E2, Q_X2_, Q_X5_, Q_X6_, Q_X7_, Q_X10_, Q_X11_⟩
    refine steps_cons ?_ ?_
    · rintro b a w' ⟨u_, vJ, GJ1, GJ2, m2_, m5_, m6_, m7_, m10_, m11_, ha, Q_D, Q_RM, Q_RV, Q_K1, Q_N1, Q_K2, Q_N2, Q_E1, Q_E2, Q_X2_, Q_X5_, Q_X6_, Q_X7_, Q_X10_, Q_X11_⟩ hb_ hon hoff
      refine ⟨_, rfl, fun K hK => ?_⟩
      replace ha := Aside0.mk ha
      have D := Aside0.mk Q_D
      refine box_step ?hg (N := 18) ?hd (cs := #[.slice none 0 0]) (t := 29) ?hr ?_; (case hd => rfl); (case hg => rfl); (case hr => first | (go_simp; done) | (go_simp; rfl))
      intro GJ1 hg w2_ hbox hb
      refine hK.out _ _ ⟨u_, vJ, GJ1, GJ2, m2_, m5_, m6_, m7_, (.pointer (some ⟨GJ1, 0, none⟩)), m11_, (by rw [ha.out]; exact putSel_upk 9 hb_ rfl rfl rfl), below_step D.out hb, fun h0_ => Kd.R_below (Q_RM h0_) hb, fun h0_ => Kd.R_below (Q_RV h0_) hb, fun _ _ => hbox, fun _ => (by rw [hg]; exact D.out.size), fun h0_ h1_ => blk_below (Q_K2 h0_ h1_) hb, Q_N2, fun h0_ => absurd ((hoff 12 (by kernel_rfl)).symm.trans h0_) (by decide), fun h0_ => blk_below (Q_E2 h0_) hb, Q_X2_, Q_X5_, Q_X6_, Q_X7_, fun _ => rfl, Q_X11_⟩
    refine steps_cons ?_ ?_
    · rintro b a w' ⟨u_, vJ, GJ1, GJ2, m2_, m5_, m6_, m7_, m10_, m11_, ha, Q_D, Q_RM, Q_RV, Q_K1, Q_N1, Q_K2, Q_N2, Q_E1, Q_E2, Q_X2_, Q_X5_, Q_X6_, Q_X7_, Q_X10_, Q_X11_⟩ hb_ hon hoff
      refine ⟨_, rfl, fun K hK => ?_⟩
      replace ha := Aside0.mk ha
      have D := Aside0.mk Q_D
      refine box_step ?hg (N := 19) ?hd (cs := #[.int .i64 0, .int .i64 0, .int .i64 0, .int .i64 0, .int .i64 0, .int .i64 0, .int .i64 0, .int .i64 0, .int .i64 0, .bool false]) (t := 23) ?hr ?_; (case hd => rfl); (case hg => rfl); (case hr => first | (go_simp; done) | (go_simp; rfl))
      intro GJ2 hg w2_ hbox hb
      refine hK.out _ _ ⟨u_, vJ, GJ1, GJ2, m2_, m5_, m6_, m7_, m10_, (.pointer (some ⟨GJ2, 0, none⟩)), (by rw [ha.out]; exact putSel_upk 10 hb_ rfl rfl rfl), below_step D.out hb, fun h0_ => Kd.R_below (Q_RM h0_) hb, fun h0_ => Kd.R_below (Q_RV h0_) hb, fun h0_ h1_ => blk_below (Q_K1 h0_ h1_) hb, Q_N1, fun _ _ => hbox, fun _ => (by rw [hg]; exact D.out.size), fun h0_ => blk_below (Q_E1 h0_) hb, fun h0_ => absurd ((hoff 13 (by kernel_rfl)).symm.trans h0_) (by decide), Q_X2_, Q_X5_, Q_X6_, Q_X7_, Q_X10_, fun _ => rfl⟩
    refine steps_cons ?_ ?_
    · rintro b a w' ⟨u_, vJ, GJ1, GJ2, m2_, m5_, m6_, m7_, m10_, m11_, ha, Q_D, Q_RM, Q_RV, Q_K1, Q_N1, Q_K2, Q_N2, Q_E1, Q_E2, Q_X2_, Q_X5_, Q_X6_, Q_X7_, Q_X10_, Q_X11_⟩ hb_ hon hoff
      refine ⟨_, rfl, fun K hK => ?_⟩
      have e18 : a.tmps[18]? = some (m10_) := by rw [ha]; exact putSel_on (e := (10, 18, m10_)) 9 rfl rfl (hon 10 (by kernel_rfl)) rfl
      rw [Q_X10_ (hon 10 (by kernel_rfl))] at e18
      have e107 : a.tmps[107]? = some (m7_) := by rw [ha]; exact putSel_on (e := (7, 107, m7_)) 6 rfl rfl (hon 7 (by kernel_rfl)) rfl
      rw [Q_X7_ (hon 7 (by kernel_rfl))] at e107
      replace ha := Aside0.mk ha
      have D := Aside0.mk Q_D
      have RM := Aside0.mk (Q_RM (hon 2 (by kernel_rfl)))
      have RV := Aside0.mk (Q_RV (hon 5 (by kernel_rfl)))
      have K1 := Aside0.mk (Q_K1 (hon 10 (by kernel_rfl)) hb_)
      have N1 := Aside0.mk (Q_N1 (hon 10 (by kernel_rfl)))
      obtain ⟨Av_, cv_, ev_⟩ := Kd.R_slice RV.out
      subst ev_
      have hs0_ : w'.cell? ⟨GJ1, 0, none⟩ = some (.slice none 0 0) := (blk_cell K1.out 0).trans rfl
      have hz0_ := blk_frozen K1.out 0
      have hst_ := Aside0.mk (show ∀ k, k ≠ GJ1 → ((w'.setCell ⟨GJ1, 0, none⟩ (.slice Av_ M.length cv_))).heap[k]? = w'.heap[k]? from by (with_reducible apply set_step_); exact fun _ _ => rfl)
      have hnew_ := Aside0.mk (show ((w'.setCell ⟨GJ1, 0, none⟩ (.slice Av_ M.length cv_))).heap[GJ1]? = some (.cells #[.slice Av_ M.length cv_] 29 (0, 0)) from by have h1_ := blk_set K1.out 0 (.slice Av_ M.length cv_); simpa using h1_)
      refine skip_ (w1 := ?_) (by rfl) rfl ?_ ?_
      rotate_left
      · go_simp
        rfl
      refine hK.out _ _ ⟨u_, .slice Av_ M.length cv_, GJ1, GJ2, m2_, m5_, m6_, m7_, m10_, m11_, (by rw [ha.out]; exact putSel_none (v := undef) rfl), (by repeat (with_reducible first | exact D.out | refine below_set ?_ N1.out)), fun _ => R_sets_ RM.out K1.out (by decide) hst_.out, fun _ => R_sets_ RV.out K1.out (by decide) hst_.out, fun _ h1_ => absurd ((up_self b 12).symm.trans h1_) (by decide), Q_N1, fun h0_ h1_ => (hst_.out _ (ne_t_ (Q_K2 h0_ h1_) K1.out (by decide))).trans (Q_K2 h0_ h1_), Q_N2, fun _ => hnew_.out, fun h0_ => (hst_.out _ (ne_t_ (Q_E2 h0_) K1.out (by decide))).trans (Q_E2 h0_), Q_X2_, Q_X5_, Q_X6_, Q_X7_, Q_X10_, Q_X11_⟩
    refine steps_cons ?_ ?_
    · rintro b a w' ⟨u_, vJ, GJ1, GJ2, m2_, m5_, m6_, m7_, m10_, m11_, ha, Q_D, Q_RM, Q_RV, Q_K1, Q_N1, Q_K2, Q_N2, Q_E1, Q_E2, Q_X2_, Q_X5_, Q_X6_, Q_X7_, Q_X10_, Q_X11_⟩ hb_ hon hoff
      refine ⟨_, rfl, fun K hK => ?_⟩
      have e19 : a.tmps[19]? = some (m11_) := by rw [ha]; exact putSel_on (e := (11, 19, m11_)) 10 rfl rfl (hon 11 (by kernel_rfl)) rfl
      rw [Q_X11_ (hon 11 (by kernel_rfl))] at e19
      have e108 : a.tmps[108]? = some (.agg #[.int .i64 r_0, .int .i64 r_1, .int .i64 r_2, .int .i64 r_3, .int .i64 r_4, .int .i64 r_5, .int .i64 r_6, .int .i64 r_7, .int .i64 r_8, .bool r_9]) := by rw [ha]; exact putSel_on (e := (8, 108, .agg #[.int .i64 r_0, .int .i64 r_1, .int .i64 r_2, .int .i64 r_3, .int .i64 r_4, .int .i64 r_5, .int .i64 r_6, .int .i64 r_7, .int .i64 r_8, .bool r_9])) 7 rfl rfl (hon 8 (by kernel_rfl)) rfl
      replace ha := Aside0.mk ha
      have D := Aside0.mk Q_D
      have RM := Aside0.mk (Q_RM (hon 2 (by kernel_rfl)))
      have RV := Aside0.mk (Q_RV (hon 5 (by kernel_rfl)))
      have K2 := Aside0.mk (Q_K2 (hon 11 (by kernel_rfl)) hb_)
      have N2 := Aside0.mk (Q_N2 (hon 11 (by kernel_rfl)))
      have hs0_ : w'.cell? ⟨GJ2, 0, none⟩ = some (.int .i64 0) := (blk_cell K2.out 0).trans rfl
      have hs1_ : w'.cell? ⟨GJ2, 1, none⟩ = some (.int .i64 0) := (blk_cell K2.out 1).trans rfl
      have hs2_ : w'.cell? ⟨GJ2, 2, none⟩ = some (.int .i64 0) := (blk_cell K2.out 2).trans rfl
      have hs3_ : w'.cell? ⟨GJ2, 3, none⟩ = some (.int .i64 0) := (blk_cell K2.out 3).trans rfl
      have hs4_ : w'.cell? ⟨GJ2, 4, none⟩ = some (.int .i64 0) := (blk_cell K2.out 4).trans rfl
      have hs5_ : w'.cell? ⟨GJ2, 5, none⟩ = some (.int .i64 0) := (blk_cell K2.out 5).trans rfl
      have hs6_ : w'.cell? ⟨GJ2, 6, none⟩ = some (.int .i64 0) := (blk_cell K2.out 6).trans rfl
      have hs7_ : w'.cell? ⟨GJ2, 7, none⟩ = some (.int .i64 0) := (blk_cell K2.out 7).trans rfl
      have hs8_ : w'.cell? ⟨GJ2, 8, none⟩ = some (.int .i64 0) := (blk_cell K2.out 8).trans rfl
      have hs9_ : w'.cell? ⟨GJ2, 9, none⟩ = some (.bool false) := (blk_cell K2.out 9).trans rfl
      have hz0_ := blk_frozen K2.out 0
      have hz1_ := blk_frozen K2.out 1
      have hz2_ := blk_frozen K2.out 2
      have hz3_ := blk_frozen K2.out 3
      have hz4_ := blk_frozen K2.out 4
      have hz5_ := blk_frozen K2.out 5
      have hz6_ := blk_frozen K2.out 6
      have hz7_ := blk_frozen K2.out 7
      have hz8_ := blk_frozen K2.out 8
      have hz9_ := blk_frozen K2.out 9
      have hst_ := Aside0.mk (show ∀ k, k ≠ GJ2 → (((((((((((w'.setCell ⟨GJ2, 0, none⟩ (.int .i64 r_0)).setCell ⟨GJ2, 1, none⟩ (.int .i64 r_1)).setCell ⟨GJ2, 2, none⟩ (.int .i64 r_2)).setCell ⟨GJ2, 3, none⟩ (.int .i64 r_3)).setCell ⟨GJ2, 4, none⟩ (.int .i64 r_4)).setCell ⟨GJ2, 5, none⟩ (.int .i64 r_5)).setCell ⟨GJ2, 6, none⟩ (.int .i64 r_6)).setCell ⟨GJ2, 7, none⟩ (.int .i64 r_7)).setCell ⟨GJ2, 8, none⟩ (.int .i64 r_8)).setCell ⟨GJ2, 9, none⟩ (.bool r_9))).heap[k]? = w'.heap[k]? from by (with_reducible apply set_step_); (with_reducible apply set_step_); (with_reducible apply set_step_); (with_reducible apply set_step_); (with_reducible apply set_step_); (with_reducible apply set_step_); (with_reducible apply set_step_); (with_reducible apply set_step_); (with_reducible apply set_step_); (with_reducible apply set_step_); exact fun _ _ => rfl)
      have hnew_ := Aside0.mk (show (((((((((((w'.setCell ⟨GJ2, 0, none⟩ (.int .i64 r_0)).setCell ⟨GJ2, 1, none⟩ (.int .i64 r_1)).setCell ⟨GJ2, 2, none⟩ (.int .i64 r_2)).setCell ⟨GJ2, 3, none⟩ (.int .i64 r_3)).setCell ⟨GJ2, 4, none⟩ (.int .i64 r_4)).setCell ⟨GJ2, 5, none⟩ (.int .i64 r_5)).setCell ⟨GJ2, 6, none⟩ (.int .i64 r_6)).setCell ⟨GJ2, 7, none⟩ (.int .i64 r_7)).setCell ⟨GJ2, 8, none⟩ (.int .i64 r_8)).setCell ⟨GJ2, 9, none⟩ (.bool r_9))).heap[GJ2]? = some (.cells #[.int .i64 r_0, .int .i64 r_1, .int .i64 r_2, .int .i64 r_3, .int .i64 r_4, .int .i64 r_5, .int .i64 r_6, .int .i64 r_7, .int .i64 r_8, .bool r_9] 23 (0, 0)) from by have h1_ := blk_set K2.out 0 (.int .i64 r_0); have h2_ := blk_set h1_ 1 (.int .i64 r_1); have h3_ := blk_set h2_ 2 (.int .i64 r_2); have h4_ := blk_set h3_ 3 (.int .i64 r_3); have h5_ := blk_set h4_ 4 (.int .i64 r_4); have h6_ := blk_set h5_ 5 (.int .i64 r_5); have h7_ := blk_set h6_ 6 (.int .i64 r_6); have h8_ := blk_set h7_ 7 (.int .i64 r_7); have h9_ := blk_set h8_ 8 (.int .i64 r_8); have h10_ := blk_set h9_ 9 (.bool r_9); simpa using h10_)
      refine skip_ (w1 := ?_) (by rfl) rfl ?_ ?_
      rotate_left
      · go_simp
        rfl
      refine hK.out _ _ ⟨u_, vJ, GJ1, GJ2, m2_, m5_, m6_, m7_, m10_, m11_, (by rw [ha.out]; exact putSel_none (v := undef) rfl), (by repeat (with_reducible first | exact D.out | refine below_set ?_ N2.out)), fun _ => R_sets_ RM.out K2.out (by decide) hst_.out, fun _ => R_sets_ RV.out K2.out (by decide) hst_.out, fun h0_ h1_ => (hst_.out _ (ne_t_ (Q_K1 h0_ h1_) K2.out (by decide))).trans (Q_K1 h0_ h1_), Q_N1, fun _ h1_ => absurd ((up_self b 13).symm.trans h1_) (by decide), Q_N2, fun h0_ => (hst_.out _ (ne_t_ (Q_E1 h0_) K2.out (by decide))).trans (Q_E1 h0_), fun _ => hnew_.out, Q_X2_, Q_X5_, Q_X6_, Q_X7_, Q_X10_, Q_X11_⟩
    refine steps_cons ?_ ?_
    · rintro b a w' ⟨u_, vJ, GJ1, GJ2, m2_, m5_, m6_, m7_, m10_, m11_, ha, Q_D, Q_RM, Q_RV, Q_K1, Q_N1, Q_K2, Q_N2, Q_E1, Q_E2, Q_X2_, Q_X5_, Q_X6_, Q_X7_, Q_X10_, Q_X11_⟩ hb_ hon hoff
      refine ⟨_, rfl, fun K hK => ?_⟩
      have e109 : a.tmps[109]? = some (.bool q) := by rw [ha]; exact putSel_on (e := (9, 109, .bool q)) 8 rfl rfl (hon 9 (by kernel_rfl)) rfl
      replace ha := Aside0.mk ha
      have D := Aside0.mk Q_D
      have RM := Aside0.mk (Q_RM (hon 2 (by kernel_rfl)))
      have RV := Aside0.mk (Q_RV (hon 5 (by kernel_rfl)))
      refine value_ (w1 := w') (v := .bool q) (by rfl) rfl ?_ ?_
      · go_simp
        (try simp only [i64_w])
        try rfl
      refine hK.out _ _ ⟨u_, vJ, GJ1, GJ2, m2_, m5_, m6_, m7_, m10_, m11_, (by rw [ha.out]; exact putSel_upk 11 hb_ rfl rfl rfl), Q_D, Q_RM, Q_RV, Q_K1, Q_N1, Q_K2, Q_N2, Q_E1, Q_E2, Q_X2_, Q_X5_, Q_X6_, Q_X7_, Q_X10_, Q_X11_⟩
    exact steps_nil
  rintro b a w18 hall ⟨u_, vJ, GJ1, GJ2, m2_, m5_, m6_, m7_, m10_, m11_, ha, Q_D, Q_RM, Q_RV, Q_K1, Q_N1, Q_K2, Q_N2, Q_E1, Q_E2, Q_X2_, Q_X5_, Q_X6_, Q_X7_, Q_X10_, Q_X11_⟩
  clear D
  have hb1_ := hall 1 (by kernel_rfl)
  have hb2_ := hall 2 (by kernel_rfl)
  have hb3_ := hall 3 (by kernel_rfl)
  have hb4_ := hall 4 (by kernel_rfl)
  have hb5_ := hall 5 (by kernel_rfl)
  have hb6_ := hall 6 (by kernel_rfl)
  have hb7_ := hall 7 (by kernel_rfl)
  have hb8_ := hall 8 (by kernel_rfl)
  have hb9_ := hall 9 (by kernel_rfl)
  have hb10_ := hall 10 (by kernel_rfl)
  have hb11_ := hall 11 (by kernel_rfl)
  have hb12_ := hall 12 (by kernel_rfl)
  have hb13_ := hall 13 (by kernel_rfl)
  have hb14_ := hall 14 (by kernel_rfl)
  subst ha
  obtain rfl := Q_X2_ hb2_
  obtain rfl := Q_X5_ hb5_
  obtain rfl := Q_X6_ hb6_
  obtain rfl := Q_X7_ hb7_
  obtain rfl := Q_X10_ hb10_
  obtain rfl := Q_X11_ hb11_
  simp only [putSel, hb1_, hb2_, hb3_, hb4_, hb5_, hb6_, hb7_, hb8_, hb9_, hb10_, hb11_, hb12_, hb13_, hb14_, if_true, Act.put, List.setIfInBounds_toArray, List.set_cons_zero, List.set_cons_succ]
  have D := Aside0.mk Q_D
  clear Q_D
  have RM := Aside0.mk (Q_RM hb2_)
  clear Q_RM
  have RV := Aside0.mk (Q_RV hb5_)
  clear Q_RV
  clear Q_K1
  have N1 := Aside0.mk (Q_N1 hb10_)
  clear Q_N1
  clear Q_K2
  have N2 := Aside0.mk (Q_N2 hb11_)
  clear Q_N2
  have E1 := Aside0.mk (Q_E1 hb12_)
  clear Q_E1
  have E2 := Aside0.mk (Q_E2 hb13_)
  clear Q_E2
  clear hall hb1_ hb2_ hb3_ hb4_ hb5_ hb6_ hb7_ hb8_ hb9_ hb10_ hb11_ hb12_ hb13_ hb14_
  obtain ⟨AJ, cJ, ev_⟩ := Kd.R_slice RV.out
  subst ev_
  have UJ := Aside0.mk (Kd.R_lower (Kd.R_mono (Kd.R_bound RV.out) (ok' := fun k_ => w17.heap.size ≤ k_ ∧ k_ < w18.heap.size) (fun k_ h_ => ⟨h_.2.1, h_.2.2.1⟩)) HB.out.size)
  clear RV RM
  have ZJ := Aside0.mk D.out.size
  replace US := Aside0.mk (Kd.R_below US.out D.out)
  replace UI := Aside0.mk (Kd.R_below UI.out D.out)
  replace B4 := Aside0.mk (blk_below B4.out D.out)
  replace B5 := Aside0.mk (blk_below B5.out D.out)
  replace FS1 := Aside0.mk (blk_below FS1.out D.out)
  replace FS2 := Aside0.mk (blk_below FS2.out D.out)
  replace FI1 := Aside0.mk (blk_below FI1.out D.out)
  replace HB := Aside0.mk (below_step HB.out D.out)
  clear D
  have FJ1 := E1
  have FJ2 := E2
  have NJ1 := N1
  have NJ2 := N2
  clear E1 E2 N1 N2
  try clear Q_X0_
  try clear Q_X1_
  try clear Q_X2_
  try clear Q_X3_
  try clear Q_X4_
  try clear Q_X5_
  try clear Q_X6_
  try clear Q_X7_
  try clear Q_X8_
  try clear Q_X9_
  try clear Q_X10_
  try clear Q_X11_
  try clear Q_X12_
  try clear Q_X13_
  have hx0 : w18.cell? ⟨GJ1, 0, none⟩ = some (.slice AJ M.length cJ) := (blk_cell FJ1.out 0).trans rfl
  have hy0 : w18.cell? ⟨GS1, 0, none⟩ = some (.slice AS M.length cS) := (blk_cell FS1.out 0).trans rfl
  go_wp2_with fail
  clear hx0 hy0
  refine (laws_eqMem.calls k _ _ M _ _ M true _ (Kd.R_reads' UJ.out).2.2 (Kd.R_reads' UJ.out).2.1 (Kd.R_reads' US.out).2.2 (Kd.R_reads' US.out).2.1 P5.out).mono ?_
  rintro e w19 ⟨rfl, hb⟩
  replace US := Aside0.mk (Kd.R_below US.out hb)
  replace UI := Aside0.mk (Kd.R_below UI.out hb)
  replace UJ := Aside0.mk (Kd.R_below UJ.out hb)
  replace B4 := Aside0.mk (blk_below B4.out hb)
  replace B5 := Aside0.mk (blk_below B5.out hb)
  replace FS1 := Aside0.mk (blk_below FS1.out hb)
  replace FS2 := Aside0.mk (blk_below FS2.out hb)
  replace FI1 := Aside0.mk (blk_below FI1.out hb)
  replace FJ1 := Aside0.mk (blk_below FJ1.out hb)
  replace FJ2 := Aside0.mk (blk_below FJ2.out hb)
  replace HB := Aside0.mk (below_step HB.out hb)
  clear hb
  have hx0 : w19.cell? ⟨GJ2, 0, none⟩ = some (.int .i64 r_0) := (blk_cell FJ2.out 0).trans rfl
  have hx1 : w19.cell? ⟨GJ2, 1, none⟩ = some (.int .i64 r_1) := (blk_cell FJ2.out 1).trans rfl
  have hx2 : w19.cell? ⟨GJ2, 2, none⟩ = some (.int .i64 r_2) := (blk_cell FJ2.out 2).trans rfl
  have hx3 : w19.cell? ⟨GJ2, 3, none⟩ = some (.int .i64 r_3) := (blk_cell FJ2.out 3).trans rfl
  have hx4 : w19.cell? ⟨GJ2, 4, none⟩ = some (.int .i64 r_4) := (blk_cell FJ2.out 4).trans rfl
  have hx5 : w19.cell? ⟨GJ2, 5, none⟩ = some (.int .i64 r_5) := (blk_cell FJ2.out 5).trans rfl
  have hx6 : w19.cell? ⟨GJ2, 6, none⟩ = some (.int .i64 r_6) := (blk_cell FJ2.out 6).trans rfl
  have hx7 : w19.cell? ⟨GJ2, 7, none⟩ = some (.int .i64 r_7) := (blk_cell FJ2.out 7).trans rfl
  have hx8 : w19.cell? ⟨GJ2, 8, none⟩ = some (.int .i64 r_8) := (blk_cell FJ2.out 8).trans rfl
  have hx9 : w19.cell? ⟨GJ2, 9, none⟩ = some (.bool r_9) := (blk_cell FJ2.out 9).trans rfl
  have hy0 : w19.cell? ⟨GS2, 0, none⟩ = some (.int .i64 r_0) := (blk_cell FS2.out 0).trans rfl
  have hy1 : w19.cell? ⟨GS2, 1, none⟩ = some (.int .i64 r_1) := (blk_cell FS2.out 1).trans rfl
  have hy2 : w19.cell? ⟨GS2, 2, none⟩ = some (.int .i64 r_2) := (blk_cell FS2.out 2).trans rfl
  have hy3 : w19.cell? ⟨GS2, 3, none⟩ = some (.int .i64 r_3) := (blk_cell FS2.out 3).trans rfl
  have hy4 : w19.cell? ⟨GS2, 4, none⟩ = some (.int .i64 r_4) := (blk_cell FS2.out 4).trans rfl
  have hy5 : w19.cell? ⟨GS2, 5, none⟩ = some (.int .i64 r_5) := (blk_cell FS2.out 5).trans rfl
  have hy6 : w19.cell? ⟨GS2, 6, none⟩ = some (.int .i64 r_6) := (blk_cell FS2.out 6).trans rfl
  have hy7 : w19.cell? ⟨GS2, 7, none⟩ = some (.int .i64 r_7) := (blk_cell FS2.out 7).trans rfl
  have hy8 : w19.cell? ⟨GS2, 8, none⟩ = some (.int .i64 r_8) := (blk_cell FS2.out 8).trans rfl
  have hy9 : w19.cell? ⟨GS2, 9, none⟩ = some (.bool r_9) := (blk_cell FS2.out 9).trans rfl
  go_wp2_with fail
  clear hx0 hy0 hx1 hy1 hx2 hy2 hx3 hy3 hx4 hy4 hx5 hy5 hx6 hy6 hx7 hy7 hx8 hy8 hx9 hy9
  refine (laws_eqCall.calls r_0 r_1 r_2 r_3 r_4 r_5 r_6 r_7 r_8 r_9 r_0 r_1 r_2 r_3 r_4 r_5 r_6 r_7 r_8 r_9 true _ P7.out).mono ?_
  rintro e w20 ⟨rfl, hb⟩
  replace US := Aside0.mk (Kd.R_below US.out hb)
  replace UI := Aside0.mk (Kd.R_below UI.out hb)
  replace UJ := Aside0.mk (Kd.R_below UJ.out hb)
  replace B4 := Aside0.mk (blk_below B4.out hb)
  replace B5 := Aside0.mk (blk_below B5.out hb)
  replace FS1 := Aside0.mk (blk_below FS1.out hb)
  replace FS2 := Aside0.mk (blk_below FS2.out hb)
  replace FI1 := Aside0.mk (blk_below FI1.out hb)
  replace FJ1 := Aside0.mk (blk_below FJ1.out hb)
  replace FJ2 := Aside0.mk (blk_below FJ2.out hb)
  replace HB := Aside0.mk (below_step HB.out hb)
  clear hb
  have hx0 : w20.cell? ⟨GI1, 0, none⟩ = some (.slice AI M.length cI) := (blk_cell FI1.out 0).trans rfl
  go_wp2_with fail
  clear hx0
  have hq := laws_heldMem.calls k AI cI MM 1 m w20 (by have h_ := (Kd.R_reads' UI.out).2.2; exact h_) (by rw [← HL.out]; exact (Kd.R_reads' UI.out).2.1) P10.out
  rw [← HL.out] at hq
  refine hq.mono ?_
  clear hq
  rintro e w21 ⟨rfl, hb⟩
  replace US := Aside0.mk (Kd.R_below US.out hb)
  replace UI := Aside0.mk (Kd.R_below UI.out hb)
  replace UJ := Aside0.mk (Kd.R_below UJ.out hb)
  replace B4 := Aside0.mk (blk_below B4.out hb)
  replace B5 := Aside0.mk (blk_below B5.out hb)
  replace FS1 := Aside0.mk (blk_below FS1.out hb)
  replace FS2 := Aside0.mk (blk_below FS2.out hb)
  replace FI1 := Aside0.mk (blk_below FI1.out hb)
  replace FJ1 := Aside0.mk (blk_below FJ1.out hb)
  replace FJ2 := Aside0.mk (blk_below FJ2.out hb)
  replace HB := Aside0.mk (below_step HB.out hb)
  clear hb
  go_wp2
  go_ret
  exact ⟨rfl, HB.out⟩
def laws_FnExactLiStep.Pure : Prop := ∀ (n : Int) (l : List Int) (a_0 a_1 a_2 a_3 a_4 a_5 a_6 a_7 a_8 : Int) (a_9 : Bool), (Lit.int .i64 n).wf = true → (l.length ≤ maxLen ∧ ∀ y ∈ l, (Lit.int .i64 y).wf = true) → ((Lit.int .i64 a_0).wf = true ∧ (Lit.int .i64 a_1).wf = true ∧ (Lit.int .i64 a_2).wf = true ∧ (Lit.int .i64 a_3).wf = true ∧ (Lit.int .i64 a_4).wf = true ∧ (Lit.int .i64 a_5).wf = true ∧ (Lit.int .i64 a_6).wf = true ∧ (Lit.int .i64 a_7).wf = true ∧ (Lit.int .i64 a_8).wf = true ∧ True) →
  (∃ s, laws_szMem.f l 1048576 = some s ∧ s < 0) ∨ ∃ (k : Nat) (s : Int) (M MM LL : List Int) (r_0 r_1 r_2 r_3 r_4 r_5 r_6 r_7 r_8 : Int) (r_9 q : Bool) (m m0 : Int), laws_szMem.f l 1048576 = some s ∧ ¬ s < 0 ∧ laws_toMem.f k l = some l ∧ spec_LiStep.f k n l a_0 a_1 a_2 a_3 a_4 a_5 a_6 a_7 a_8 a_9 = some (M, r_0, r_1, r_2, r_3, r_4, r_5, r_6, r_7, r_8, r_9, q) ∧ impl_LiStep.f k n l a_0 a_1 a_2 a_3 a_4 a_5 a_6 a_7 a_8 a_9 = some (M, r_0, r_1, r_2, r_3, r_4, r_5, r_6, r_7, r_8, r_9, q) ∧ laws_eqMem.f k M M = some true ∧ laws_eqMem.f k l l = some true ∧ laws_eqCall.f r_0 r_1 r_2 r_3 r_4 r_5 r_6 r_7 r_8 r_9 r_0 r_1 r_2 r_3 r_4 r_5 r_6 r_7 r_8 r_9 = some true ∧ laws_markMem.f k l 1 = some (m0, LL) ∧ ¬ m0 < 0 ∧ laws_markMem.f k M 1 = some (m, MM) ∧ laws_heldMem.f k MM 1 = some m ∧ ¬ m < 0
end Go.Proofs.Ytjikobdblohphaa.PFnExactLiStep
