-- Written by the session's own patched copy of the printer (wip/patch_print.py).
import Derived.Test.YtjikobdblohphaaPFnExactLiStepx0
import Derived.Test.YtjikobdblohphaaPFnExactLiStepx1
import Derived.Test.YtjikobdblohphaaPFnExactLiStepx3
import Derived.Test.YtjikobdblohphaaPFnExactLiStepx4
import Derived.Test.YtjikobdblohphaaPFnExactLiStepx5
namespace Go.Proofs.Ytjikobdblohphaa.PFnExactLiStep
open Go.RowKit Go.Proofs.YtjikobdblohphaaW.PrintWords Go.Proofs.YtjikobdblohphaaW.PrintLast Go.Proofs.YtjikobdblohphaaW.PrintMore
attribute [local go_sem] max2_int min2_int max_two min_two max_three min_three max_four min_four   -- for this text's walks alone
set_option linter.unusedVariables false
set_option linter.unusedSimpArgs false

theorem Z6b {w : World} {g : Nat} {t : TypeId} {cs : Array Value} (h : w.heap[g]? = some (.cells cs t (0, 0))) (i : Nat) (v : Value) (e : cs[i]? = some v := by rfl) : w.cell? ⟨g, i, none⟩ = some v := (blk_cell h i).trans e
theorem Z6a {w : World} {g a i j : Nat} {u : Value} (h : g ≠ a) : (w.setCell ⟨a, i, none⟩ u).cell? ⟨g, j, none⟩ = w.cell? ⟨g, j, none⟩ := cell_far (p := ⟨a, _, none⟩) h _
theorem Z6d {p : Prop} (h : p) : Aside0 p := ⟨h⟩
theorem Z6c {w : World} {g : Nat} {t : TypeId} {cs : Array Value} (h : w.heap[g]? = some (.cells cs t (0, 0))) (i : Nat) : w.frozen? ⟨g, i, none⟩ = false := blk_frozen h i
theorem Z6bc {g : Nat} {w w1 : World} {i : Nat} {u : Value} (h : ∀ k, k ≠ g → w1.heap[k]? = w.heap[k]?) : ∀ k, k ≠ g → (w1.setCell ⟨g, i, none⟩ u).heap[k]? = w.heap[k]? := fun k hk => (Below.heap_setCell w1 ⟨g, i, none⟩ u k hk).trans (h k hk)
theorem Z6az {g : Nat} {w w1 : World} {m : Nat} (h : ∀ k, k ≠ g → w1.heap[k]? = w.heap[k]?) : ∀ k, k ≠ g → (w1.drewN m).heap[k]? = w.heap[k]? := h
theorem Z6bb {g : Nat} {w w1 : World} (h : ∀ k, k ≠ g → w1.heap[k]? = w.heap[k]?) : ∀ k, k ≠ g → w1.drew.heap[k]? = w.heap[k]? := h
theorem Z6ba {α : Type} {d : Kd α} {e g : Nat} {w w1 : World} {base : Nat} {ok : Nat → Prop} {v : Value} {xs : List α} (h : d.R e w base (fun k => ok k ∧ k ≠ g) v xs) (hs : ∀ k, k ≠ g → w1.heap[k]? = w.heap[k]? := by repeat (first | (with_reducible exact fun _ _ => rfl) | (with_reducible apply Z6bc) | (with_reducible apply Z6az) | (with_reducible apply Z6bb))) : d.R e w1 base (fun k => ok k ∧ k ≠ g) v xs := Kd.R_step h (fun k hk _ => hs k hk.2)
open Bool renaming true → T, false → F
theorem Z6f {p : Prop} (h : p := by repeat (first | (with_reducible first | exact HB.out | apply below_alloc | apply pw_below_drewN | apply below_drew1 | refine below_set ?_ mC.out | refine below_set ?_ vC.out | refine below_set ?_ hD.out | refine below_set ?_ zD.out | refine below_set ?_ zH.out | refine below_set ?_ NH.out) | exact HB.out)) : p := h
theorem q6_1 {p : Prop} (h : p := by (with_reducible repeat (first | refine blk_drewN ?_ _ | refine blk_drew ?_ | refine blk_alloc ?_ _)); refine blk_put (cs := #[.int .i64 0, .int .i64 0, .int .i64 0, .int .i64 0, .int .i64 0, .int .i64 0, .int .i64 0, .int .i64 0, .int .i64 0, .bool false]) ?_ 9 _ rfl; (with_reducible repeat (first | refine blk_drewN ?_ _ | refine blk_drew ?_ | refine blk_alloc ?_ _)); refine blk_put (cs := #[.int .i64 0, .int .i64 0, .int .i64 0, .int .i64 0, .int .i64 0, .int .i64 0, .int .i64 0, .int .i64 0, .int .i64 0, .bool false]) ?_ 8 _ rfl; (with_reducible repeat (first | refine blk_drewN ?_ _ | refine blk_drew ?_ | refine blk_alloc ?_ _)); refine blk_put (cs := #[.int .i64 0, .int .i64 0, .int .i64 0, .int .i64 0, .int .i64 0, .int .i64 0, .int .i64 0, .int .i64 0, .int .i64 0, .bool false]) ?_ 7 _ rfl; (with_reducible repeat (first | refine blk_drewN ?_ _ | refine blk_drew ?_ | refine blk_alloc ?_ _)); refine blk_put (cs := #[.int .i64 0, .int .i64 0, .int .i64 0, .int .i64 0, .int .i64 0, .int .i64 0, .int .i64 0, .int .i64 0, .int .i64 0, .bool false]) ?_ 6 _ rfl; (with_reducible repeat (first | refine blk_drewN ?_ _ | refine blk_drew ?_ | refine blk_alloc ?_ _)); refine blk_put (cs := #[.int .i64 0, .int .i64 0, .int .i64 0, .int .i64 0, .int .i64 0, .int .i64 0, .int .i64 0, .int .i64 0, .int .i64 0, .bool false]) ?_ 5 _ rfl; (with_reducible repeat (first | refine blk_drewN ?_ _ | refine blk_drew ?_ | refine blk_alloc ?_ _)); refine blk_put (cs := #[.int .i64 0, .int .i64 0, .int .i64 0, .int .i64 0, .int .i64 0, .int .i64 0, .int .i64 0, .int .i64 0, .int .i64 0, .bool false]) ?_ 4 _ rfl; (with_reducible repeat (first | refine blk_drewN ?_ _ | refine blk_drew ?_ | refine blk_alloc ?_ _)); refine blk_put (cs := #[.int .i64 0, .int .i64 0, .int .i64 0, .int .i64 0, .int .i64 0, .int .i64 0, .int .i64 0, .int .i64 0, .int .i64 0, .bool false]) ?_ 3 _ rfl; (with_reducible repeat (first | refine blk_drewN ?_ _ | refine blk_drew ?_ | refine blk_alloc ?_ _)); refine blk_put (cs := #[.int .i64 0, .int .i64 0, .int .i64 0, .int .i64 0, .int .i64 0, .int .i64 0, .int .i64 0, .int .i64 0, .int .i64 0, .bool false]) ?_ 2 _ rfl; (with_reducible repeat (first | refine blk_drewN ?_ _ | refine blk_drew ?_ | refine blk_alloc ?_ _)); refine blk_put (cs := #[.int .i64 0, .int .i64 0, .int .i64 0, .int .i64 0, .int .i64 0, .int .i64 0, .int .i64 0, .int .i64 0, .int .i64 0, .bool false]) ?_ 1 _ rfl; (with_reducible repeat (first | refine blk_drewN ?_ _ | refine blk_drew ?_ | refine blk_alloc ?_ _)); refine blk_put (cs := #[.int .i64 0, .int .i64 0, .int .i64 0, .int .i64 0, .int .i64 0, .int .i64 0, .int .i64 0, .int .i64 0, .int .i64 0, .bool false]) ?_ 0 _ rfl; (with_reducible repeat (first | refine blk_drewN ?_ _ | refine blk_drew ?_ | refine blk_alloc ?_ _)); refine blk_far ?_ CA.out _; (with_reducible repeat (first | refine blk_drewN ?_ _ | refine blk_drew ?_ | refine blk_alloc ?_ _)); exact cA.out) : p := h
theorem Z6o {p : Prop} (h : p := by (iterate 10 ((with_reducible repeat (first | refine blk_drewN ?_ _ | refine blk_drew ?_ | refine blk_alloc ?_ _)); refine blk_far ?_ xB.out _)); (with_reducible repeat (first | refine blk_drewN ?_ _ | refine blk_drew ?_ | refine blk_alloc ?_ _)); refine blk_put (cs := #[.slice none 0 0]) ?_ 0 _ rfl; (with_reducible repeat (first | refine blk_drewN ?_ _ | refine blk_drew ?_ | refine blk_alloc ?_ _)); exact iA.out) : p := h
theorem Z6h {p : Prop} (h : p := by (with_reducible repeat (first | refine blk_drewN ?_ _ | refine blk_drew ?_ | refine blk_alloc ?_ _)); exact bA.out) : p := h
theorem Z6j {p : Prop} (h : p := by (with_reducible repeat (first | refine blk_drewN ?_ _ | refine blk_drew ?_ | refine blk_alloc ?_ _)); exact jA.out) : p := h
theorem Z6g {p : Prop} (h : p := by (with_reducible repeat (first | refine blk_drewN ?_ _ | refine blk_drew ?_ | refine blk_alloc ?_ _)); exact iA.out) : p := h
theorem Z6i {p : Prop} (h : p := by (with_reducible repeat (first | refine blk_drewN ?_ _ | refine blk_drew ?_ | refine blk_alloc ?_ _)); exact cA.out) : p := h
theorem Z6k {p : Prop} (h : p := by (try simp only [List.map_toArray, List.map_cons, List.map_nil]); first | done | rfl | (simp only [List.length_drop, List.length_take]; rfl)) : p := h
theorem Z6r {p : Prop} (h : p := by repeat (first | (with_reducible first | exact HB.out | apply below_alloc | apply pw_below_drewN | apply below_drew1 | refine below_set ?_ mC.out | refine below_set ?_ vC.out | refine below_set ?_ hD.out | refine below_set ?_ zD.out | refine below_set ?_ zH.out) | exact HB.out)) : p := h
theorem Z6l {p : Prop} (h : p := by (with_reducible repeat (first | refine blk_drewN ?_ _ | refine blk_drew ?_ | refine blk_alloc ?_ _)); exact lA.out) : p := h
theorem Z6m {p : Prop} (h : p := by (with_reducible repeat (first | apply Kd.R_alloc | apply Kd.R_drewN | apply Kd.R_drew)); exact fA.out) : p := h
theorem Z6n {p : Prop} (h : p := by (with_reducible repeat (first | refine blk_drewN ?_ _ | refine blk_drew ?_ | refine blk_alloc ?_ _)); exact mA.out) : p := h
theorem Z6v {p : Prop} (h : p := by repeat (first | (with_reducible first | exact HB.out | apply below_alloc | apply pw_below_drewN | apply below_drew1 | refine below_set ?_ mC.out | refine below_set ?_ vC.out | refine below_set ?_ hD.out | refine below_set ?_ zD.out) | exact HB.out)) : p := h
theorem Z6z {p : Prop} (h : p := by (with_reducible repeat (first | refine blk_drewN ?_ _ | refine blk_drew ?_ | refine blk_alloc ?_ _)); refine blk_far ?_ DA.out _; (with_reducible repeat (first | refine blk_drewN ?_ _ | refine blk_drew ?_ | refine blk_alloc ?_ _)); exact jA.out) : p := h
theorem Z6w {p : Prop} (h : p := by (with_reducible repeat (first | refine blk_drewN ?_ _ | refine blk_drew ?_ | refine blk_alloc ?_ _)); refine blk_far ?_ sA.out _; (with_reducible repeat (first | refine blk_drewN ?_ _ | refine blk_drew ?_ | refine blk_alloc ?_ _)); exact iA.out) : p := h
theorem Z6u {p : Prop} (h : p := by (with_reducible repeat (first | refine blk_drewN ?_ _ | refine blk_drew ?_ | refine blk_alloc ?_ _)); refine blk_far ?_ tA.out _; (with_reducible repeat (first | refine blk_drewN ?_ _ | refine blk_drew ?_ | refine blk_alloc ?_ _)); exact cA.out) : p := h
theorem Z6x {p : Prop} (h : p := by (with_reducible repeat (first | refine blk_drewN ?_ _ | refine blk_drew ?_ | refine blk_alloc ?_ _)); refine blk_far ?_ KA.out _; (with_reducible repeat (first | refine blk_drewN ?_ _ | refine blk_drew ?_ | refine blk_alloc ?_ _)); exact mA.out) : p := h
theorem Z6aa {p : Prop} (h : p := by (with_reducible repeat (first | refine blk_drewN ?_ _ | refine blk_drew ?_ | refine blk_alloc ?_ _)); refine blk_far ?_ LA.out _; (with_reducible repeat (first | refine blk_drewN ?_ _ | refine blk_drew ?_ | refine blk_alloc ?_ _)); exact lA.out) : p := h
theorem Z6ay {p : Prop} (h : p := by (with_reducible repeat (first | refine blk_drewN ?_ _ | refine blk_drew ?_ | refine blk_alloc ?_ _)); refine blk_put (cs := #[.int .i64 nA, .int .i64 oA, .int .i64 pA, .int .i64 kA, .int .i64 uA, .int .i64 wA, .int .i64 zA, .int .i64 qA, .int .i64 xA, .bool vA]) ?_ 3 _ rfl; (with_reducible repeat (first | refine blk_drewN ?_ _ | refine blk_drew ?_ | refine blk_alloc ?_ _)); refine blk_put (cs := #[.int .i64 nA, .int .i64 oA, .int .i64 pA, .int .i64 kA, .int .i64 uA, .int .i64 wA, .int .i64 yA, .int .i64 qA, .int .i64 xA, .bool vA]) ?_ 6 _ rfl; (with_reducible repeat (first | refine blk_drewN ?_ _ | refine blk_drew ?_ | refine blk_alloc ?_ _)); exact bA.out) : p := h
theorem Z6ab {p : Prop} (h : p := by rw [hg]; exact Nat.ne_of_lt (blk_lt (g := gA) (o := .cells #[.int .i64 nA, .int .i64 oA, .int .i64 pA, .int .i64 kA, .int .i64 uA, .int .i64 wA, .int .i64 yA, .int .i64 qA, .int .i64 xA, .bool vA] 23 (0, 0)) Z6h)) : p := h
theorem Z6y {p : Prop} (h : p := by rw [hg]; exact Nat.ne_of_gt (blk_lt (g := gA) (o := .cells #[.int .i64 nA, .int .i64 oA, .int .i64 pA, .int .i64 kA, .int .i64 uA, .int .i64 wA, .int .i64 yA, .int .i64 qA, .int .i64 xA, .bool vA] 23 (0, 0)) Z6h)) : p := h
theorem Z6p {p : Prop} (h : p := by first | rfl | (simp [errW_none, errW_some] <;> rfl) | (simp [*, errW_none, errW_some] <;> rfl)) : p := h
theorem Z6e {p : Prop} (h : p := by kernel_rfl) : p := h
theorem Z6ac {p : Prop} (h : p := by (with_reducible repeat (first | apply Kd.R_alloc | apply Kd.R_drewN | apply Kd.R_drew)); exact Kd.R_mono (Z6ba (Kd.R_types fA.out bA.out (by decide))) (fun _ hk => trivial)) : p := h
theorem Z6ag {p : Prop} (h : p := by (with_reducible repeat (first | refine blk_drewN ?_ _ | refine blk_drew ?_ | refine blk_alloc ?_ _)); refine blk_put (cs := #[.slice none 0 0]) ?_ 0 _ rfl; (with_reducible repeat (first | refine blk_drewN ?_ _ | refine blk_drew ?_ | refine blk_alloc ?_ _)); exact lA.out) : p := h
theorem Z6af {p : Prop} (h : p := by (iterate 2 ((with_reducible repeat (first | refine blk_drewN ?_ _ | refine blk_drew ?_ | refine blk_alloc ?_ _)); refine blk_far ?_ DA.out _)); (with_reducible repeat (first | refine blk_drewN ?_ _ | refine blk_drew ?_ | refine blk_alloc ?_ _)); exact jA.out) : p := h
theorem Z6am {p : Prop} (h : p := by (iterate 2 ((with_reducible repeat (first | refine blk_drewN ?_ _ | refine blk_drew ?_ | refine blk_alloc ?_ _)); refine blk_far ?_ sA.out _)); (with_reducible repeat (first | refine blk_drewN ?_ _ | refine blk_drew ?_ | refine blk_alloc ?_ _)); exact iA.out) : p := h
theorem Z6au {p : Prop} (h : p := by (iterate 2 ((with_reducible repeat (first | refine blk_drewN ?_ _ | refine blk_drew ?_ | refine blk_alloc ?_ _)); refine blk_far ?_ tA.out _)); (with_reducible repeat (first | refine blk_drewN ?_ _ | refine blk_drew ?_ | refine blk_alloc ?_ _)); exact cA.out) : p := h
theorem Z6ar {p : Prop} (h : p := by (iterate 2 ((with_reducible repeat (first | refine blk_drewN ?_ _ | refine blk_drew ?_ | refine blk_alloc ?_ _)); refine blk_far ?_ KA.out _)); (with_reducible repeat (first | refine blk_drewN ?_ _ | refine blk_drew ?_ | refine blk_alloc ?_ _)); exact mA.out) : p := h
theorem Z6at {p : Prop} (h : p := by (iterate 2 ((with_reducible repeat (first | refine blk_drewN ?_ _ | refine blk_drew ?_ | refine blk_alloc ?_ _)); refine blk_far ?_ LA.out _)); (with_reducible repeat (first | refine blk_drewN ?_ _ | refine blk_drew ?_ | refine blk_alloc ?_ _)); exact lA.out) : p := h
theorem Z6ah {p : Prop} (h : p := by (with_reducible repeat (first | apply Kd.R_alloc | apply Kd.R_drewN | apply Kd.R_drew)); exact Kd.R_mono (Kd.R_far (p := ⟨IA, 0, none⟩) (Kd.R_types wC.out lA.out (by decide)) (fun _ hk => hk.2) (.slice RA AA.length SA)) (fun _ hk => trivial)) : p := h
theorem Z6an {p : Prop} (h : p := by (with_reducible repeat (first | refine blk_drewN ?_ _ | refine blk_drew ?_ | refine blk_alloc ?_ _)); refine blk_far ?_ XB.out _; (with_reducible repeat (first | refine blk_drewN ?_ _ | refine blk_drew ?_ | refine blk_alloc ?_ _)); exact jA.out) : p := h
theorem Z6ao {p : Prop} (h : p := by (with_reducible repeat (first | refine blk_drewN ?_ _ | refine blk_drew ?_ | refine blk_alloc ?_ _)); refine blk_far ?_ UA.out _; (with_reducible repeat (first | refine blk_drewN ?_ _ | refine blk_drew ?_ | refine blk_alloc ?_ _)); exact bA.out) : p := h
theorem Z6ad {p : Prop} (h : p := by (with_reducible repeat (first | refine blk_drewN ?_ _ | refine blk_drew ?_ | refine blk_alloc ?_ _)); refine blk_far ?_ fB.out _; (with_reducible repeat (first | refine blk_drewN ?_ _ | refine blk_drew ?_ | refine blk_alloc ?_ _)); exact iA.out) : p := h
theorem Z6ai {p : Prop} (h : p := by (with_reducible repeat (first | refine blk_drewN ?_ _ | refine blk_drew ?_ | refine blk_alloc ?_ _)); refine blk_far ?_ gB.out _; (with_reducible repeat (first | refine blk_drewN ?_ _ | refine blk_drew ?_ | refine blk_alloc ?_ _)); exact cA.out) : p := h
theorem Z6as {p : Prop} (h : p := by (with_reducible repeat (first | refine blk_drewN ?_ _ | refine blk_drew ?_ | refine blk_alloc ?_ _)); refine blk_far ?_ nC.out _; (with_reducible repeat (first | refine blk_drewN ?_ _ | refine blk_drew ?_ | refine blk_alloc ?_ _)); exact mA.out) : p := h
theorem Z6al {p : Prop} (h : p := by repeat (first | (with_reducible first | exact HB.out | apply below_alloc | apply pw_below_drewN | apply below_drew1 | refine below_set ?_ mC.out | refine below_set ?_ vC.out | refine below_set ?_ hD.out) | exact HB.out)) : p := h
theorem Z6s {p : Prop} (h : p := by rw [hg]; exact Nat.ne_of_lt (blk_lt (g := JA) (o := .cells #[.slice IB tB.length JB] 29 (0, 0)) Z6j)) : p := h
theorem Z6t {p : Prop} (h : p := by rw [hg]; exact Nat.ne_of_gt (blk_lt (g := JA) (o := .cells #[.slice IB tB.length JB] 29 (0, 0)) Z6j)) : p := h
theorem Z6aw {p : Prop} (h : p := by (with_reducible repeat (first | refine blk_drewN ?_ _ | refine blk_drew ?_ | refine blk_alloc ?_ _)); refine blk_put (cs := #[.int .i64 nA, .int .i64 oA, .int .i64 pA, .int .i64 kA, .int .i64 uA, .int .i64 wA, .int .i64 yA, .int .i64 qA, .int .i64 xA, .bool vA]) ?_ 3 _ rfl; (with_reducible repeat (first | refine blk_drewN ?_ _ | refine blk_drew ?_ | refine blk_alloc ?_ _)); exact bA.out) : p := h
theorem Z6ap {p : Prop} (h : p := by repeat (first | (with_reducible first | exact HB.out | apply below_alloc | apply pw_below_drewN | apply below_drew1 | refine below_set ?_ mC.out | refine below_set ?_ vC.out) | exact HB.out)) : p := h
theorem Z6ae {p : Prop} (h : p := by repeat (first | (with_reducible first | exact HB.out | apply below_alloc | apply pw_below_drewN | apply below_drew1 | refine below_set ?_ mC.out) | exact HB.out)) : p := h
theorem Z6q {p : Prop} (h : p := by have := HJ5.out; first | omega | exact Nat.le_refl _) : p := h
theorem Z6ak {p : Prop} (h : p := by first | exact Kd.R_nil _ _ _ _ _ | exact Kd.N_nil _ _ _ _ _ | exact Kd.V_nil _ _ _ _ _ | exact Kd.Q_nil _ _ _ _ _ | exact Kd.S_nil _ _ _ _ _) : p := h
theorem Z6aj {p : Prop} (h : p := by repeat (first | (with_reducible first | exact HB.out | apply below_alloc | apply pw_below_drewN | apply below_drew1) | exact HB.out)) : p := h
theorem Z6ax {p : Prop} (h : p := by rw [hg]; exact Nat.ne_of_lt (blk_lt (g := hA) (o := .cells #[.int .i64 0, .int .i64 0, .int .i64 0, .int .i64 0, .int .i64 0, .int .i64 0, .int .i64 0, .int .i64 0, .int .i64 0, .bool false] 23 (0, 0)) Z6i)) : p := h
theorem Z6av {p : Prop} (h : p := by rw [hg]; exact Nat.ne_of_gt (blk_lt (g := hA) (o := .cells #[.int .i64 0, .int .i64 0, .int .i64 0, .int .i64 0, .int .i64 0, .int .i64 0, .int .i64 0, .int .i64 0, .int .i64 0, .bool false] 23 (0, 0)) Z6i)) : p := h
/-! ### spec_LiStep: function 24 -/
mutual
def spec_LiStep.j0 : Nat → Int → Int → Bool → Int → Int → Int → Int → Int → Int → Int → Int → Int → Bool → List Int → Option (List Int × Int × Int × Int × Int × Int × Int × Int × Int × Int × Bool × Bool)
 | 0, _, _, _, _, _, _, _, _, _, _, _, _, _, _ => none
 | k + 1, x0, x12, x41, TA, YA, ZA, OA, qB, rB, AB, aB, sB, bB, cB => if x41 = true then (some (([] : List Int), 0, 0, 0, 0, 0, 0, 0, 0, 0, false, false)) else (if OA = 0 then ((spec_l05Link.f x0 x12).bind fun HH => (if HH = true then ((spec_l05First.f k x0 TA YA ZA OA qB x12 AB aB sB bB).bind fun SB => (some (cB, SB.1, SB.2.1, SB.2.2.1, SB.2.2.2.1, SB.2.2.2.2.1, SB.2.2.2.2.2.1, SB.2.2.2.2.2.2.1, SB.2.2.2.2.2.2.2.1, SB.2.2.2.2.2.2.2.2.1, SB.2.2.2.2.2.2.2.2.2, true))) else (some (([] : List Int), 0, 0, 0, 0, 0, 0, 0, 0, 0, false, false)))) else (if OA = 1 then ((spec_l05Link.f x0 x12).bind fun IH => (if IH = true then (if (Int.tmod x12 2) = 1 then (if TA = 3 then (spec_LiStep.j2 k TA YA ZA 2 qB rB x12 aB sB bB cB) else (spec_LiStep.j2 k TA YA ZA 3 qB rB x12 aB sB bB cB)) else (spec_LiStep.j2 k TA YA ZA 2 qB rB x12 aB sB bB cB)) else (some (([] : List Int), 0, 0, 0, 0, 0, 0, 0, 0, 0, false, false)))) else (if OA = 2 then ((spec_l05Key.f k TA YA ZA OA qB rB AB aB x12 bB).bind fun TB => (some (cB, TB.1, TB.2.1, TB.2.2.1, TB.2.2.2.1, TB.2.2.2.2.1, TB.2.2.2.2.2.1, TB.2.2.2.2.2.2.1, TB.2.2.2.2.2.2.2.1, TB.2.2.2.2.2.2.2.2.1, TB.2.2.2.2.2.2.2.2.2, true))) else (if OA = 3 then (if x12 = 0 then (spec_LiStep.j2 k TA YA ZA 0 0 rB AB aB sB bB cB) else (spec_LiStep.j2 k TA YA ZA 0 qB rB AB aB sB bB cB)) else (if OA = 4 then (spec_LiStep.j1 k x12 (OA == 4) TA YA ZA OA qB rB AB aB sB bB cB) else (spec_LiStep.j1 k x12 (OA == 5) TA YA ZA OA qB rB AB aB sB bB cB))))))
def spec_LiStep.j2 : Nat → Int → Int → Int → Int → Int → Int → Int → Int → Int → Bool → List Int → Option (List Int × Int × Int × Int × Int × Int × Int × Int × Int × Int × Bool × Bool)
 | 0, _, _, _, _, _, _, _, _, _, _, _ => none
 | k + 1, TA, YA, ZA, OA, qB, rB, AB, aB, sB, bB, cB => some (cB, TA, YA, ZA, OA, qB, rB, AB, aB, sB, bB, true)
def spec_LiStep.j1 : Nat → Int → Bool → Int → Int → Int → Int → Int → Int → Int → Int → Int → Bool → List Int → Option (List Int × Int × Int × Int × Int × Int × Int × Int × Int × Int × Bool × Bool)
 | 0, _, _, _, _, _, _, _, _, _, _, _, _, _ => none
 | k + 1, x12, x101, TA, YA, ZA, OA, qB, rB, AB, aB, sB, bB, cB => if x101 = true then (spec_LiStep.j2 k TA YA ZA (wrap64 (OA + 1)) qB rB AB aB sB bB cB) else (if x12 = 0 then ((spec_l05Again.f TA YA ZA OA qB rB AB aB sB bB).bind fun UB => (some (cB, UB.1, UB.2.1, UB.2.2.1, UB.2.2.2.1, UB.2.2.2.2.1, UB.2.2.2.2.2.1, UB.2.2.2.2.2.2.1, UB.2.2.2.2.2.2.2.1, UB.2.2.2.2.2.2.2.2.1, UB.2.2.2.2.2.2.2.2.2, true))) else ((spec_l05End.f TA YA ZA OA qB rB AB aB sB bB 1).bind fun VB => (some (cB, VB.1, VB.2.1, VB.2.2.1, VB.2.2.2.1, VB.2.2.2.2.1, VB.2.2.2.2.2.1, VB.2.2.2.2.2.2.1, VB.2.2.2.2.2.2.2.1, VB.2.2.2.2.2.2.2.2.1, VB.2.2.2.2.2.2.2.2.2, true))))
end
def spec_LiStep.f (k : Nat) (a0 : Int) (tB : List Int) (nA : Int) (oA : Int) (pA : Int) (kA : Int) (uA : Int) (wA : Int) (yA : Int) (qA : Int) (xA : Int) (vA : Bool) : Option (List Int × Int × Int × Int × Int × Int × Int × Int × Int × Int × Bool × Bool) := (spec_LiAct.f k a0 nA oA pA kA uA wA yA qA xA vA).bind fun RB => ((spec_Do.f tB RB.1 RB.2.1 RB.2.2.1 RB.2.2.2.1).bind fun KB => (if RB.2.2.2.2 = true then (if KB.2.2 = true then (spec_LiStep.j0 k a0 KB.2.1 ((tB.length : Int) != (wrap64 (1 + (wrap64 (2 * a0))))) nA oA pA kA uA wA yA qA xA vA KB.1) else (spec_LiStep.j0 k a0 KB.2.1 true nA oA pA kA uA wA yA qA xA vA KB.1)) else (spec_LiStep.j0 k a0 KB.2.1 true nA oA pA kA uA wA yA qA xA vA KB.1)))
theorem spec_LiStep.mono_l : ∀ k, (∀ y0 y1 y2 y3 y4 y5 y6 y7 y8 y9 y10 y11 y12 y13, LeO (spec_LiStep.j0 k y0 y1 y2 y3 y4 y5 y6 y7 y8 y9 y10 y11 y12 y13) (spec_LiStep.j0 (k + 1) y0 y1 y2 y3 y4 y5 y6 y7 y8 y9 y10 y11 y12 y13)) ∧ (∀ y0 y1 y2 y3 y4 y5 y6 y7 y8 y9 y10, LeO (spec_LiStep.j2 k y0 y1 y2 y3 y4 y5 y6 y7 y8 y9 y10) (spec_LiStep.j2 (k + 1) y0 y1 y2 y3 y4 y5 y6 y7 y8 y9 y10)) ∧ (∀ y0 y1 y2 y3 y4 y5 y6 y7 y8 y9 y10 y11 y12, LeO (spec_LiStep.j1 k y0 y1 y2 y3 y4 y5 y6 y7 y8 y9 y10 y11 y12) (spec_LiStep.j1 (k + 1) y0 y1 y2 y3 y4 y5 y6 y7 y8 y9 y10 y11 y12))
 | 0 => ⟨fun _ _ _ _ _ _ _ _ _ _ _ _ _ _ r h => by simp [spec_LiStep.j0] at h, fun _ _ _ _ _ _ _ _ _ _ _ r h => by simp [spec_LiStep.j2] at h, fun _ _ _ _ _ _ _ _ _ _ _ _ _ r h => by simp [spec_LiStep.j1] at h⟩
 | k + 1 => by
  obtain ⟨ih0, ih1, ih2⟩ := spec_LiStep.mono_l k
  refine ⟨?_, ?_, ?_⟩
  ·intro y0 y1 y2 y3 y4 y5 y6 y7 y8 y9 y10 y11 y12 y13
   unfold spec_LiStep.j0
   repeat' first
   | (with_reducible exact ih0 _ _ _ _ _ _ _ _ _ _ _ _ _ _)
   | (with_reducible exact ih1 _ _ _ _ _ _ _ _ _ _ _)
   | (with_reducible exact ih2 _ _ _ _ _ _ _ _ _ _ _ _ _)
   | (with_reducible exact spec_LiAct.mono _ _ _ _ _ _ _ _ _ _ _ _)
   | (with_reducible exact spec_l05First.mono _ _ _ _ _ _ _ _ _ _ _ _)
   | (with_reducible exact spec_l05Key.mono _ _ _ _ _ _ _ _ _ _ _)
   | (with_reducible exact LeO.refl _)
   | (with_reducible exact LeO.none _)
   | (with_reducible refine LeO.ite ?_ ?_)
   | (with_reducible refine LeO.bind ?_ (fun _ => ?_))
   | exact ih0 _ _ _ _ _ _ _ _ _ _ _ _ _ _
   | exact ih1 _ _ _ _ _ _ _ _ _ _ _
   | exact ih2 _ _ _ _ _ _ _ _ _ _ _ _ _
   | exact spec_LiAct.mono _ _ _ _ _ _ _ _ _ _ _ _
   | exact spec_l05First.mono _ _ _ _ _ _ _ _ _ _ _ _
   | exact spec_l05Key.mono _ _ _ _ _ _ _ _ _ _ _
   | exact LeO.none _
   | refine LeO.ite ?_ ?_
   | refine LeO.bind ?_ (fun _ => ?_)
  ·intro y0 y1 y2 y3 y4 y5 y6 y7 y8 y9 y10
   unfold spec_LiStep.j2
   repeat' first
   | (with_reducible exact ih0 _ _ _ _ _ _ _ _ _ _ _ _ _ _)
   | (with_reducible exact ih1 _ _ _ _ _ _ _ _ _ _ _)
   | (with_reducible exact ih2 _ _ _ _ _ _ _ _ _ _ _ _ _)
   | (with_reducible exact spec_LiAct.mono _ _ _ _ _ _ _ _ _ _ _ _)
   | (with_reducible exact spec_l05First.mono _ _ _ _ _ _ _ _ _ _ _ _)
   | (with_reducible exact spec_l05Key.mono _ _ _ _ _ _ _ _ _ _ _)
   | (with_reducible exact LeO.refl _)
   | (with_reducible exact LeO.none _)
   | (with_reducible refine LeO.ite ?_ ?_)
   | (with_reducible refine LeO.bind ?_ (fun _ => ?_))
   | exact ih0 _ _ _ _ _ _ _ _ _ _ _ _ _ _
   | exact ih1 _ _ _ _ _ _ _ _ _ _ _
   | exact ih2 _ _ _ _ _ _ _ _ _ _ _ _ _
   | exact spec_LiAct.mono _ _ _ _ _ _ _ _ _ _ _ _
   | exact spec_l05First.mono _ _ _ _ _ _ _ _ _ _ _ _
   | exact spec_l05Key.mono _ _ _ _ _ _ _ _ _ _ _
   | exact LeO.none _
   | refine LeO.ite ?_ ?_
   | refine LeO.bind ?_ (fun _ => ?_)
  ·intro y0 y1 y2 y3 y4 y5 y6 y7 y8 y9 y10 y11 y12
   unfold spec_LiStep.j1
   repeat' first
   | (with_reducible exact ih0 _ _ _ _ _ _ _ _ _ _ _ _ _ _)
   | (with_reducible exact ih1 _ _ _ _ _ _ _ _ _ _ _)
   | (with_reducible exact ih2 _ _ _ _ _ _ _ _ _ _ _ _ _)
   | (with_reducible exact spec_LiAct.mono _ _ _ _ _ _ _ _ _ _ _ _)
   | (with_reducible exact spec_l05First.mono _ _ _ _ _ _ _ _ _ _ _ _)
   | (with_reducible exact spec_l05Key.mono _ _ _ _ _ _ _ _ _ _ _)
   | (with_reducible exact LeO.refl _)
   | (with_reducible exact LeO.none _)
   | (with_reducible refine LeO.ite ?_ ?_)
   | (with_reducible refine LeO.bind ?_ (fun _ => ?_))
   | exact ih0 _ _ _ _ _ _ _ _ _ _ _ _ _ _
   | exact ih1 _ _ _ _ _ _ _ _ _ _ _
   | exact ih2 _ _ _ _ _ _ _ _ _ _ _ _ _
   | exact spec_LiAct.mono _ _ _ _ _ _ _ _ _ _ _ _
   | exact spec_l05First.mono _ _ _ _ _ _ _ _ _ _ _ _
   | exact spec_l05Key.mono _ _ _ _ _ _ _ _ _ _ _
   | exact LeO.none _
   | refine LeO.ite ?_ ?_
   | refine LeO.bind ?_ (fun _ => ?_)
theorem spec_LiStep.mono : ∀ a0 a1 a2 a3 a4 a5 a6 a7 a8 a9 a10 a11 k, LeO (spec_LiStep.f k a0 a1 a2 a3 a4 a5 a6 a7 a8 a9 a10 a11) (spec_LiStep.f (k + 1) a0 a1 a2 a3 a4 a5 a6 a7 a8 a9 a10 a11) := by
 intro a0 a1 a2 a3 a4 a5 a6 a7 a8 a9 a10 a11 k
 obtain ⟨ih0, ih1, ih2⟩ := spec_LiStep.mono_l k
 unfold spec_LiStep.f
 repeat' first
   | (with_reducible exact ih0 _ _ _ _ _ _ _ _ _ _ _ _ _ _)
   | (with_reducible exact ih1 _ _ _ _ _ _ _ _ _ _ _)
   | (with_reducible exact ih2 _ _ _ _ _ _ _ _ _ _ _ _ _)
   | (with_reducible exact spec_LiAct.mono _ _ _ _ _ _ _ _ _ _ _ _)
   | (with_reducible exact spec_l05First.mono _ _ _ _ _ _ _ _ _ _ _ _)
   | (with_reducible exact spec_l05Key.mono _ _ _ _ _ _ _ _ _ _ _)
   | (with_reducible exact LeO.refl _)
   | (with_reducible exact LeO.none _)
   | (with_reducible refine LeO.ite ?_ ?_)
   | (with_reducible refine LeO.bind ?_ (fun _ => ?_))
   | exact ih0 _ _ _ _ _ _ _ _ _ _ _ _ _ _
   | exact ih1 _ _ _ _ _ _ _ _ _ _ _
   | exact ih2 _ _ _ _ _ _ _ _ _ _ _ _ _
   | exact spec_LiAct.mono _ _ _ _ _ _ _ _ _ _ _ _
   | exact spec_l05First.mono _ _ _ _ _ _ _ _ _ _ _ _
   | exact spec_l05Key.mono _ _ _ _ _ _ _ _ _ _ _
   | exact LeO.none _
   | refine LeO.ite ?_ ?_
   | refine LeO.bind ?_ (fun _ => ?_)
set_option maxHeartbeats 8000000 in
set_option maxRecDepth 100000 in
theorem spec_LiStep.calls (k : Nat) (a0 : Int) (IB : Option Addr) (JB : Nat) (tB : List Int) (nA : Int) (oA : Int) (pA : Int) (kA : Int) (uA : Int) (wA : Int) (yA : Int) (qA : Int) (xA : Int) (vA : Bool) (r1 : List Int) (r2 : Int) (r3 : Int) (r4 : Int) (r5 : Int) (r6 : Int) (r7 : Int) (r8 : Int) (r9 : Int) (r10 : Int) (r11 : Bool) (r12 : Bool) (w : World) (AH : Kd.C (Kd.int .i64) w IB tB.length tB) (BH : tB.length ≤ JB) (h : spec_LiStep.f k a0 tB nA oA pA kA uA wA yA qA xA vA = some (r1, r2, r3, r4, r5, r6, r7, r8, r9, r10, r11, r12)) :
  Calls Try.prog 24 #[.int .i64 a0, .agg #[.slice IB tB.length JB], .agg #[.int .i64 nA, .int .i64 oA, .int .i64 pA, .int .i64 kA, .int .i64 uA, .int .i64 wA, .int .i64 yA, .int .i64 qA, .int .i64 xA, .bool vA]] w fun e w' => ∃ v0_ : Value, e = .returned (.tuple #[.agg #[v0_], .agg #[.int .i64 r2, .int .i64 r3, .int .i64 r4, .int .i64 r5, .int .i64 r6, .int .i64 r7, .int .i64 r8, .int .i64 r9, .int .i64 r10, .bool r11], .bool r12]) ∧ Kd.R (Kd.int .i64) 3 w' w.heap.size (fun _ => True) v0_ r1 ∧ Below w.heap.size w w' := by
 have hu29 := Try.underlying29
 have hu23 := Try.underlying23
 have hu37 := Try.underlying37
 have OH := Z6d AH
 have PH := Z6d BH
 clear AH BH
 have HB := Z6d (Below.refl w.heap.size w)
 have H : ((spec_LiAct.f k a0 nA oA pA kA uA wA yA qA xA vA).bind fun RB => ((spec_Do.f tB RB.1 RB.2.1 RB.2.2.1 RB.2.2.2.1).bind fun KB => (if RB.2.2.2.2 = true then (if KB.2.2 = true then (spec_LiStep.j0 k a0 KB.2.1 ((tB.length : Int) != (wrap64 (1 + (wrap64 (2 * a0))))) nA oA pA kA uA wA yA qA xA vA KB.1) else (spec_LiStep.j0 k a0 KB.2.1 true nA oA pA kA uA wA yA qA xA vA KB.1)) else (spec_LiStep.j0 k a0 KB.2.1 true nA oA pA kA uA wA yA qA xA vA KB.1)))) = some (r1, r2, r3, r4, r5, r6, r7, r8, r9, r10, r11, r12) := h
 clear h
 replace H := Option.bind_eq_some_iff.mp H
 obtain ⟨⟨MB, NB, OB, QB, QH⟩, A40, H⟩ := H
 (try dsimp only at H)
 have A4 := Z6d A40
 clear A40
 replace H := Option.bind_eq_some_iff.mp H
 obtain ⟨⟨AA, zA, RH⟩, A50, H⟩ := H
 (try dsimp only at H)
 have A5 := Z6d A50
 clear A50
 have HC6 := Z6d H
 clear H
 go_enter Try.func24, Try.ntmps24
 go_upto_region 3 with (first | ((with_reducible refine gate_dst (N := 4) rfl ?_); (try (refine gate_guard (by rfl) ?_; dsimp only)); refine box_event ?hg (N := 4) ?hd (cs := #[.slice IB tB.length JB]) (t := 29) ?hr ?_; (case hd => rfl); (case hg => rfl); (case hr => first | (go_simp; done) | (go_simp; rfl)); intro JA hg w7 hbox hb; have hB := Z6d (below_step Z6aj hb); have BB := Z6d (hbox); have iB := Z6d ((by rw [hg]; exact (below_size Z6aj) : w.heap.size ≤ JA)); have jB := Z6d ((by rw [hg]; exact (below_size Z6aj) : w.heap.size ≤ JA)); clear HB; have HB := hB; have jA := BB; have yN := iB; have mC := jB; clear hB BB iB jB; clear hb hbox hg) | ((with_reducible refine gate_dst (N := 5) rfl ?_); (try (refine gate_guard (by rfl) ?_; dsimp only)); refine box_event ?hg (N := 5) ?hd (cs := #[.int .i64 nA, .int .i64 oA, .int .i64 pA, .int .i64 kA, .int .i64 uA, .int .i64 wA, .int .i64 yA, .int .i64 qA, .int .i64 xA, .bool vA]) (t := 23) ?hr ?_; (case hd => rfl); (case hg => rfl); (case hr => first | (go_simp; done) | (go_simp; rfl)); intro gA hg w8 hbox hb; have hB := Z6d (blk_below (g := JA) (o := .cells #[.slice IB tB.length JB] 29 (0, 0)) Z6j hb); have BB := Z6d (below_step Z6ae hb); have iB := Z6d (hbox); have jB := Z6d ((by rw [hg]; exact (below_size Z6ae) : w.heap.size ≤ gA)); have uB := Z6d ((by rw [hg]; exact (below_size Z6ae) : w.heap.size ≤ gA)); have FB := Z6d ((Z6s : JA ≠ gA)); have wB := Z6d ((Z6t : gA ≠ JA)); clear jA HB; have jA := hB; have HB := BB; have bA := iB; have zN := jB; have vC := uB; have DA := FB; have VA := wB; clear hB BB iB jB uB FB wB; clear hb hbox hg) | ((with_reducible refine gate_dst (N := 6) rfl ?_); (try (refine gate_guard (by rfl) ?_; dsimp only)); refine box_event ?hg (N := 6) ?hd (cs := #[.slice none 0 0]) (t := 29) ?hr ?_; (case hd => rfl); (case hg => rfl); (case hr => first | (go_simp; done) | (go_simp; rfl)); intro rA hg w9 hbox hb; have hB := Z6d (blk_below (g := JA) (o := .cells #[.slice IB tB.length JB] 29 (0, 0)) Z6j hb); have BB := Z6d (blk_below (g := gA) (o := .cells #[.int .i64 nA, .int .i64 oA, .int .i64 pA, .int .i64 kA, .int .i64 uA, .int .i64 wA, .int .i64 yA, .int .i64 qA, .int .i64 xA, .bool vA] 23 (0, 0)) Z6h hb); have iB := Z6d (below_step Z6ap hb); have jB := Z6d (hbox); have uB := Z6d ((by rw [hg]; exact (below_size Z6ap) : w.heap.size ≤ rA)); have FB := Z6d ((by rw [hg]; exact (below_size Z6ap) : w.heap.size ≤ rA)); have wB := Z6d ((Z6s : JA ≠ rA)); have CB := Z6d ((Z6t : rA ≠ JA)); have AD := Z6d ((Z6ab : gA ≠ rA)); have BD := Z6d ((Z6y : rA ≠ gA)); clear jA bA HB; have jA := hB; have bA := BB; have HB := iB; have iA := jB; have AN := uB; have hD := FB; have kB := wB; have lB := CB; have dA := AD; have sA := BD; clear hB BB iB jB uB FB wB CB AD BD; clear hb hbox hg) | ((with_reducible refine gate_dst (N := 7) rfl ?_); (try (refine gate_guard (by rfl) ?_; dsimp only)); refine box_event ?hg (N := 7) ?hd (cs := #[.int .i64 0, .int .i64 0, .int .i64 0, .int .i64 0, .int .i64 0, .int .i64 0, .int .i64 0, .int .i64 0, .int .i64 0, .bool false]) (t := 23) ?hr ?_; (case hd => rfl); (case hg => rfl); (case hr => first | (go_simp; done) | (go_simp; rfl)); intro hA hg RQ hbox hb; have hB := Z6d (blk_below (g := JA) (o := .cells #[.slice IB tB.length JB] 29 (0, 0)) Z6j hb); have BB := Z6d (blk_below (g := gA) (o := .cells #[.int .i64 nA, .int .i64 oA, .int .i64 pA, .int .i64 kA, .int .i64 uA, .int .i64 wA, .int .i64 yA, .int .i64 qA, .int .i64 xA, .bool vA] 23 (0, 0)) Z6h hb); have iB := Z6d (blk_below (g := rA) (o := .cells #[.slice none 0 0] 29 (0, 0)) Z6g hb); have jB := Z6d (below_step Z6al hb); have uB := Z6d (hbox); have FB := Z6d ((by rw [hg]; exact (below_size Z6al) : w.heap.size ≤ hA)); have wB := Z6d ((by rw [hg]; exact (below_size Z6al) : w.heap.size ≤ hA)); have CB := Z6d ((Z6s : JA ≠ hA)); have AD := Z6d ((Z6t : hA ≠ JA)); have BD := Z6d ((Z6ab : gA ≠ hA)); have xC := Z6d ((Z6y : hA ≠ gA)); have yC := Z6d ((by rw [hg]; exact Nat.ne_of_lt (blk_lt (g := rA) (o := .cells #[.slice none 0 0] 29 (0, 0)) Z6g) : rA ≠ hA)); have zC := Z6d ((by rw [hg]; exact Nat.ne_of_gt (blk_lt (g := rA) (o := .cells #[.slice none 0 0] 29 (0, 0)) Z6g) : hA ≠ rA)); clear jA bA iA HB; have jA := hB; have bA := BB; have iA := iB; have HB := jB; have cA := uB; have BN := FB; have zD := wB; have mB := CB; have nB := AD; have aA := BD; have tA := xC; have xB := yC; have CA := zC; clear hB BB iB jB uB FB wB CB AD BD xC yC zC; clear hb hbox hg; have CN := VA.out; have DN := DA.out; have EN := dA.out; have FN := sA.out; have GN := aA.out; have HN := tA.out; have BG := Z6b bA.out 0 (.int .i64 nA); have CG := Z6b bA.out 1 (.int .i64 oA); have DG := Z6b bA.out 2 (.int .i64 pA); have EG := Z6b bA.out 3 (.int .i64 kA); have FG := Z6b bA.out 4 (.int .i64 uA); have GG := Z6b bA.out 5 (.int .i64 wA); have HG := Z6b bA.out 6 (.int .i64 yA); have IG := Z6b bA.out 7 (.int .i64 qA); have JG := Z6b bA.out 8 (.int .i64 xA); have KG := Z6b bA.out 9 (.bool vA); have LG := Z6c bA.out 0; have MG := Z6c bA.out 1; have NG := Z6c bA.out 2; have OG := Z6c bA.out 3; have PG := Z6c bA.out 4; have QG := Z6c bA.out 5; have RG := Z6c bA.out 6; have SG := Z6c bA.out 7; have TG := Z6c bA.out 8; have UG := Z6c bA.out 9) | ((with_reducible refine gate_callee (f := 19) rfl ?_); refine goesL_ (some 17) rfl rfl Try.func19 Z6e rfl #[.int .i64 a0, .agg #[.int .i64 nA, .int .i64 oA, .int .i64 pA, .int .i64 kA, .int .i64 uA, .int .i64 wA, .int .i64 yA, .int .i64 qA, .int .i64 xA, .bool vA]] rfl Z6k ?_; (with_reducible refine (spec_LiAct.calls k a0 nA oA pA kA uA wA yA qA xA vA MB NB OB QB QH _ A4.out).mono ?_); rintro e SQ ⟨rfl, hb⟩; refine ⟨_, rfl, ?_⟩; have hB := Z6d (blk_below (g := JA) (o := .cells #[.slice IB tB.length JB] 29 (0, 0)) Z6j hb); have BB := Z6d (blk_below (g := gA) (o := .cells #[.int .i64 nA, .int .i64 oA, .int .i64 pA, .int .i64 kA, .int .i64 uA, .int .i64 wA, .int .i64 yA, .int .i64 qA, .int .i64 xA, .bool vA] 23 (0, 0)) Z6h hb); have iB := Z6d (blk_below (g := rA) (o := .cells #[.slice none 0 0] 29 (0, 0)) Z6g hb); have jB := Z6d (blk_below (g := hA) (o := .cells #[.int .i64 0, .int .i64 0, .int .i64 0, .int .i64 0, .int .i64 0, .int .i64 0, .int .i64 0, .int .i64 0, .int .i64 0, .bool false] 23 (0, 0)) Z6i hb); have uB := Z6d (below_step Z6v hb); clear jA bA iA cA HB; have jA := hB; have bA := BB; have iA := iB; have cA := jB; have HB := uB; clear hB BB iB jB uB; (try clear hb); (try clear hb2); (try clear hk); (try clear hi)) | ((with_reducible refine gate_dst (N := 9) rfl ?_); (try (refine gate_guard (by rfl) ?_; dsimp only)); refine box_event ?hg (N := 9) ?hd (cs := #[.int .i64 0, .int .i64 0, .int .i64 0, .int .i64 0]) (t := 37) ?hr ?_; (case hd => rfl); (case hg => rfl); (case hr => first | (go_simp; done) | (go_simp; rfl)); intro WA hg TQ hbox hb; have hB := Z6d (blk_below (g := JA) (o := .cells #[.slice IB tB.length JB] 29 (0, 0)) Z6j hb); have BB := Z6d (blk_below (g := gA) (o := .cells #[.int .i64 nA, .int .i64 oA, .int .i64 pA, .int .i64 kA, .int .i64 uA, .int .i64 wA, .int .i64 yA, .int .i64 qA, .int .i64 xA, .bool vA] 23 (0, 0)) Z6h hb); have iB := Z6d (blk_below (g := rA) (o := .cells #[.slice none 0 0] 29 (0, 0)) Z6g hb); have jB := Z6d (blk_below (g := hA) (o := .cells #[.int .i64 0, .int .i64 0, .int .i64 0, .int .i64 0, .int .i64 0, .int .i64 0, .int .i64 0, .int .i64 0, .int .i64 0, .bool false] 23 (0, 0)) Z6i hb); have uB := Z6d (below_step Z6v hb); have FB := Z6d (hbox); have wB := Z6d ((by rw [hg]; exact (below_size Z6v) : w.heap.size ≤ WA)); have CB := Z6d ((by rw [hg]; exact (below_size Z6v) : w.heap.size ≤ WA)); have AD := Z6d ((Z6s : JA ≠ WA)); have BD := Z6d ((Z6t : WA ≠ JA)); have xC := Z6d ((Z6ab : gA ≠ WA)); have yC := Z6d ((Z6y : WA ≠ gA)); have zC := Z6d ((by rw [hg]; exact Nat.ne_of_lt (blk_lt (g := rA) (o := .cells #[.slice none 0 0] 29 (0, 0)) Z6g) : rA ≠ WA)); have CD := Z6d ((by rw [hg]; exact Nat.ne_of_gt (blk_lt (g := rA) (o := .cells #[.slice none 0 0] 29 (0, 0)) Z6g) : WA ≠ rA)); have DD := Z6d ((Z6ax : hA ≠ WA)); have ED := Z6d ((Z6av : WA ≠ hA)); clear jA bA iA cA HB; have jA := hB; have bA := BB; have iA := iB; have cA := jB; have HB := uB; have mA := FB; have IN := wB; have zH := CB; have YB := AD; have oC := BD; have XA := xC; have KA := yC; have oB := zC; have yB := CD; have pB := DD; have zB := ED; clear hB BB iB jB uB FB wB CB AD BD xC yC zC CD DD ED; clear hb hbox hg; have JN := oC.out; have KN := YB.out; have LN := KA.out; have MN := XA.out; have NN := yB.out; have ON := oB.out; have PN := zB.out; have QN := pB.out; have VG := Z6b mA.out 0 (.int .i64 0); have WG := Z6b mA.out 1 (.int .i64 0); have XG := Z6b mA.out 2 (.int .i64 0); have YG := Z6b mA.out 3 (.int .i64 0); have ZG := Z6c mA.out 0; have aH := Z6c mA.out 1; have bH := Z6c mA.out 2; have cH := Z6c mA.out 3; have RN := kB.out; have SN := lB.out; have TN := mB.out; have UN := nB.out; have dH := Z6b jA.out 0 (.slice IB tB.length JB); have eH := Z6c jA.out 0) | ((with_reducible refine gate_callee (f := 55) rfl ?_); refine goesL_ (some 23) rfl rfl Try.func55 Z6e rfl #[.agg #[.slice IB tB.length JB], .agg #[.int .i64 MB, .int .i64 NB, .int .i64 OB, .int .i64 QB]] rfl Z6k ?_; (with_reducible refine (spec_Do.calls _ _ tB MB NB OB QB AA zA RH _ ?side1 ?side2 A5.out).mono ?_); (case side1 => exact Kd.C_below OH.out Z6r); (case side2 => exact PH.out); rintro e UQ ⟨xQ, rfl, ho0, hb⟩; refine ⟨_, rfl, ?_⟩; have hB := Z6d (Kd.R_lower ho0 (below_size Z6r)); have BB := Z6d (blk_below (g := JA) (o := .cells #[.slice IB tB.length JB] 29 (0, 0)) (by (iterate 4 ((with_reducible repeat (first | refine blk_drewN ?_ _ | refine blk_drew ?_ | refine blk_alloc ?_ _)); refine blk_far ?_ YB.out _)); (with_reducible repeat (first | refine blk_drewN ?_ _ | refine blk_drew ?_ | refine blk_alloc ?_ _)); exact jA.out) hb); have iB := Z6d (blk_below (g := gA) (o := .cells #[.int .i64 nA, .int .i64 oA, .int .i64 pA, .int .i64 kA, .int .i64 uA, .int .i64 wA, .int .i64 yA, .int .i64 qA, .int .i64 xA, .bool vA] 23 (0, 0)) (by (iterate 4 ((with_reducible repeat (first | refine blk_drewN ?_ _ | refine blk_drew ?_ | refine blk_alloc ?_ _)); refine blk_far ?_ XA.out _)); (with_reducible repeat (first | refine blk_drewN ?_ _ | refine blk_drew ?_ | refine blk_alloc ?_ _)); exact bA.out) hb); have jB := Z6d (blk_below (g := rA) (o := .cells #[.slice none 0 0] 29 (0, 0)) (by (iterate 4 ((with_reducible repeat (first | refine blk_drewN ?_ _ | refine blk_drew ?_ | refine blk_alloc ?_ _)); refine blk_far ?_ oB.out _)); (with_reducible repeat (first | refine blk_drewN ?_ _ | refine blk_drew ?_ | refine blk_alloc ?_ _)); exact iA.out) hb); have uB := Z6d (blk_below (g := hA) (o := .cells #[.int .i64 0, .int .i64 0, .int .i64 0, .int .i64 0, .int .i64 0, .int .i64 0, .int .i64 0, .int .i64 0, .int .i64 0, .bool false] 23 (0, 0)) (by (iterate 4 ((with_reducible repeat (first | refine blk_drewN ?_ _ | refine blk_drew ?_ | refine blk_alloc ?_ _)); refine blk_far ?_ pB.out _)); (with_reducible repeat (first | refine blk_drewN ?_ _ | refine blk_drew ?_ | refine blk_alloc ?_ _)); exact cA.out) hb); have FB := Z6d (blk_below (g := WA) (o := .cells #[.int .i64 MB, .int .i64 NB, .int .i64 OB, .int .i64 QB] 37 (0, 0)) (by (with_reducible repeat (first | refine blk_drewN ?_ _ | refine blk_drew ?_ | refine blk_alloc ?_ _)); refine blk_put (cs := #[.int .i64 MB, .int .i64 NB, .int .i64 OB, .int .i64 0]) ?_ 3 _ rfl; (with_reducible repeat (first | refine blk_drewN ?_ _ | refine blk_drew ?_ | refine blk_alloc ?_ _)); refine blk_put (cs := #[.int .i64 MB, .int .i64 NB, .int .i64 0, .int .i64 0]) ?_ 2 _ rfl; (with_reducible repeat (first | refine blk_drewN ?_ _ | refine blk_drew ?_ | refine blk_alloc ?_ _)); refine blk_put (cs := #[.int .i64 MB, .int .i64 0, .int .i64 0, .int .i64 0]) ?_ 1 _ rfl; (with_reducible repeat (first | refine blk_drewN ?_ _ | refine blk_drew ?_ | refine blk_alloc ?_ _)); refine blk_put (cs := #[.int .i64 0, .int .i64 0, .int .i64 0, .int .i64 0]) ?_ 0 _ rfl; (with_reducible repeat (first | refine blk_drewN ?_ _ | refine blk_drew ?_ | refine blk_alloc ?_ _)); exact mA.out) hb); have wB := Z6d (below_step Z6r hb); clear jA bA iA cA mA HB; have wC := hB; have jA := BB; have bA := iB; have iA := jB; have cA := uB; have mA := FB; have HB := wB; clear hB BB iB jB uB FB wB; (try clear hb); (try clear hb2); (try clear hk); (try clear hi); (try clear ho0)) | ((with_reducible refine gate_dst (N := 11) rfl ?_); (try (refine gate_guard (by rfl) ?_; dsimp only)); refine box_event ?hg (N := 11) ?hd (cs := #[.slice none 0 0]) (t := 29) ?hr ?_; (case hd => rfl); (case hg => rfl); (case hr => first | (go_simp; done) | (go_simp; rfl)); intro IA hg VQ hbox hb; have hB := Z6d (Kd.R_below (by (with_reducible repeat (first | apply Kd.R_alloc | apply Kd.R_drewN | apply Kd.R_drew)); exact wC.out) hb); have BB := Z6d (blk_below (g := JA) (o := .cells #[.slice IB tB.length JB] 29 (0, 0)) Z6j hb); have iB := Z6d (blk_below (g := gA) (o := .cells #[.int .i64 nA, .int .i64 oA, .int .i64 pA, .int .i64 kA, .int .i64 uA, .int .i64 wA, .int .i64 yA, .int .i64 qA, .int .i64 xA, .bool vA] 23 (0, 0)) Z6h hb); have jB := Z6d (blk_below (g := rA) (o := .cells #[.slice none 0 0] 29 (0, 0)) Z6g hb); have uB := Z6d (blk_below (g := hA) (o := .cells #[.int .i64 0, .int .i64 0, .int .i64 0, .int .i64 0, .int .i64 0, .int .i64 0, .int .i64 0, .int .i64 0, .int .i64 0, .bool false] 23 (0, 0)) Z6i hb); have FB := Z6d (blk_below (g := WA) (o := .cells #[.int .i64 MB, .int .i64 NB, .int .i64 OB, .int .i64 QB] 37 (0, 0)) Z6n hb); have wB := Z6d (below_step Z6r hb); have CB := Z6d (hbox); have AD := Z6d ((by rw [hg]; exact (below_size Z6r) : w.heap.size ≤ IA)); have BD := Z6d ((by rw [hg]; exact (below_size Z6r) : w.heap.size ≤ IA)); have xC := Z6d ((Z6s : JA ≠ IA)); have yC := Z6d ((Z6t : IA ≠ JA)); have zC := Z6d ((Z6ab : gA ≠ IA)); have CD := Z6d ((Z6y : IA ≠ gA)); have DD := Z6d ((by rw [hg]; exact Nat.ne_of_lt (blk_lt (g := rA) (o := .cells #[.slice none 0 0] 29 (0, 0)) Z6g) : rA ≠ IA)); have ED := Z6d ((by rw [hg]; exact Nat.ne_of_gt (blk_lt (g := rA) (o := .cells #[.slice none 0 0] 29 (0, 0)) Z6g) : IA ≠ rA)); have SH := Z6d ((Z6ax : hA ≠ IA)); have TH := Z6d ((Z6av : IA ≠ hA)); have UH := Z6d ((by rw [hg]; exact Nat.ne_of_lt (blk_lt (g := WA) (o := .cells #[.int .i64 MB, .int .i64 NB, .int .i64 OB, .int .i64 QB] 37 (0, 0)) Z6n) : WA ≠ IA)); have VH := Z6d ((by rw [hg]; exact Nat.ne_of_gt (blk_lt (g := WA) (o := .cells #[.int .i64 MB, .int .i64 NB, .int .i64 OB, .int .i64 QB] 37 (0, 0)) Z6n) : IA ≠ WA)); clear wC jA bA iA cA mA HB; have wC := hB; have jA := BB; have bA := iB; have iA := jB; have cA := uB; have mA := FB; have HB := wB; have lA := CB; have VN := AD; have NH := BD; have XB := xC; have pC := yC; have UA := zC; have LA := CD; have fB := DD; have EA := ED; have gB := SH; have eA := TH; have nC := UH; have uD := VH; clear hB BB iB jB uB FB wB CB AD BD xC yC zC CD DD ED SH TH UH VH; clear hb hbox hg; obtain ⟨RA, SA, TK⟩ := Kd.R_slice wC.out; subst TK; have WN := pC.out; have XN := XB.out; have YN := LA.out; have ZN := UA.out; have aO := EA.out; have bO := fB.out; have cO := eA.out; have dO := gB.out; have eO := uD.out; have fO := nC.out; have fH := Z6b lA.out 0 (.slice none 0 0); have gH := Z6c lA.out 0))
 (try simp only [Act.put, List.setIfInBounds_toArray, List.set_cons_zero, List.set_cons_succ])
 go_cut [41] (fun v41 wc => ∃ (kq : Nat) (iD : Bool), v41 = .bool iD ∧ Aside0 (spec_LiStep.j0 kq a0 zA iD nA oA pA kA uA wA yA qA xA vA AA = some (r1, r2, r3, r4, r5, r6, r7, r8, r9, r10, r11, r12)) ∧ Aside0 (kq ≤ k) ∧ Aside0 (Kd.R (Kd.int .i64) 3 wc w.heap.size (fun _ => True) (.slice RA AA.length SA) AA) ∧ Aside0 (wc.heap[JA]? = some (.cells #[(.slice IB tB.length JB)] 29 (0, 0))) ∧ Aside0 (wc.heap[gA]? = some (.cells #[.int .i64 nA, .int .i64 oA, .int .i64 pA, .int .i64 kA, .int .i64 uA, .int .i64 wA, .int .i64 yA, .int .i64 qA, .int .i64 xA, .bool vA] 23 (0, 0))) ∧ Aside0 (wc.heap[rA]? = some (.cells #[(.slice none 0 0)] 29 (0, 0))) ∧ Aside0 (wc.heap[hA]? = some (.cells #[.int .i64 0, .int .i64 0, .int .i64 0, .int .i64 0, .int .i64 0, .int .i64 0, .int .i64 0, .int .i64 0, .int .i64 0, .bool false] 23 (0, 0))) ∧ Aside0 (wc.heap[WA]? = some (.cells #[.int .i64 MB, .int .i64 NB, .int .i64 OB, .int .i64 QB] 37 (0, 0))) ∧ Aside0 (wc.heap[IA]? = some (.cells #[(.slice RA AA.length SA)] 29 (0, 0))) ∧ Aside0 (Below w.heap.size w wc))
 case first =>
  have H := HC6.out
  clear HC6
  by_cases c34 : QH = true
  ·subst c34
   rw [if_pos rfl] at H
   by_cases c35 : RH = true
   ·subst c35
    rw [if_pos rfl] at H
    have H' := Z6d H
    clear H
    have gO := DA.out
    have hO := VA.out
    have iO := kB.out
    have jO := lB.out
    have kO := mB.out
    have lO := nB.out
    have mO := YB.out
    have nO := oC.out
    have oO := XB.out
    have pO := pC.out
    have hH := Z6b jA.out 0 (.slice IB tB.length JB)
    have iH := Z6c jA.out 0
    go_wp2
    go_meet
    case rel => exact ⟨_, (((tB.length : Int) != (wrap64 (1 + (wrap64 (2 * a0)))))), (by first | rfl | (simp; done) | (simp [*]; done)), H', ⟨by first | omega | exact Nat.le_refl _⟩, ⟨Z6ah⟩, ⟨Z6an⟩, ⟨Z6ao⟩, ⟨Z6ad⟩, ⟨Z6ai⟩, ⟨Z6as⟩, ⟨Z6ag⟩, ⟨Z6f⟩⟩
   ·replace c35 := Bool.eq_false_iff.mpr c35
    subst c35
    rw [if_neg (show ¬ (false = true) by decide)] at H
    have H' := Z6d H
    clear H
    go_wp2
    go_meet
    case rel => exact ⟨_, (true), (by first | rfl | (simp; done) | (simp [*]; done)), H', ⟨by first | omega | exact Nat.le_refl _⟩, ⟨Z6ah⟩, ⟨Z6an⟩, ⟨Z6ao⟩, ⟨Z6ad⟩, ⟨Z6ai⟩, ⟨Z6as⟩, ⟨Z6ag⟩, ⟨Z6f⟩⟩
  ·replace c34 := Bool.eq_false_iff.mpr c34
   subst c34
   rw [if_neg (show ¬ (false = true) by decide)] at H
   have H' := Z6d H
   clear H
   go_wp2
   go_meet
   case rel => exact ⟨_, (true), (by first | rfl | (simp; done) | (simp [*]; done)), H', ⟨by first | omega | exact Nat.le_refl _⟩, ⟨Z6ah⟩, ⟨Z6an⟩, ⟨Z6ao⟩, ⟨Z6ad⟩, ⟨Z6ai⟩, ⟨Z6as⟩, ⟨Z6ag⟩, ⟨Z6f⟩⟩
 case rest =>
  clear HC6
  (try clear c1); (try clear c2); (try clear p2); (try clear c3); (try clear c4); (try clear c5); (try clear p6); (try clear c11); (try clear c12); (try clear c13); (try clear c17); (try clear c18); (try clear c19); (try clear c20); (try clear c22); (try clear c23); (try clear c24); (try clear c28); (try clear c29); (try clear c30); (try clear c31); (try clear c32); (try clear c34); (try clear c35); (try clear c36); (try clear c37); (try clear c38); (try clear c39); (try clear c40); (try clear BG); (try clear CG); (try clear DG); (try clear EG); (try clear FG); (try clear GG); (try clear HG); (try clear IG); (try clear JG); (try clear KG); (try clear VG); (try clear WG); (try clear XG); (try clear YG); (try clear dH); (try clear fH); (try clear hH); (try clear LG); (try clear MG); (try clear NG); (try clear OG); (try clear PG); (try clear QG); (try clear RG); (try clear SG); (try clear TG); (try clear UG); (try clear ZG); (try clear aH); (try clear bH); (try clear cH); (try clear eH); (try clear gH); (try clear iH)
  obtain ⟨kq, iD, rfl, HA, HJ5, fA, jA, bA, iA, cA, mA, lA, HB⟩ := hcut
  cases kq with
  | zero => exact absurd HA.out (by simp [spec_LiStep.j0])
  | succ kj5 =>
   have H := HA.out
   clear HA
   simp only [spec_LiStep.j0] at H
   by_cases c42 : iD = true
   ·subst c42
    rw [if_pos rfl] at H
    simp only [Option.some.injEq, Prod.mk.injEq] at H
    obtain ⟨rfl, rfl, rfl, rfl, rfl, rfl, rfl, rfl, rfl, rfl, rfl, rfl⟩ := H
    have qO := lB.out
    have rO := kB.out
    have sO := sA.out
    have tO := dA.out
    have uO := xB.out
    have vO := CA.out
    have wO := oB.out
    have xO := yB.out
    have yO := fB.out
    have zO := EA.out
    have qJ := Z6b iA.out 0 (.slice none 0 0)
    have rJ := Z6c iA.out 0
    have AO := nB.out
    have BO := mB.out
    have CO := tA.out
    have DO := aA.out
    have EO := pB.out
    have FO := zB.out
    have GO := gB.out
    have HO := eA.out
    have sJ := Z6b cA.out 0 (.int .i64 0)
    have tJ := Z6b cA.out 1 (.int .i64 0)
    have uJ := Z6b cA.out 2 (.int .i64 0)
    have vJ := Z6b cA.out 3 (.int .i64 0)
    have wJ := Z6b cA.out 4 (.int .i64 0)
    have xJ := Z6b cA.out 5 (.int .i64 0)
    have yJ := Z6b cA.out 6 (.int .i64 0)
    have zJ := Z6b cA.out 7 (.int .i64 0)
    have AJ := Z6b cA.out 8 (.int .i64 0)
    have BJ := Z6b cA.out 9 (.bool false)
    have CJ := Z6c cA.out 0
    have DJ := Z6c cA.out 1
    have EJ := Z6c cA.out 2
    have FJ := Z6c cA.out 3
    have GJ := Z6c cA.out 4
    have HJ := Z6c cA.out 5
    have IJ := Z6c cA.out 6
    have JJ := Z6c cA.out 7
    have KJ := Z6c cA.out 8
    have LJ := Z6c cA.out 9
    go_wp2
    refine bodyPost_ret (results_list (rs := [.cell 6 29, .cell 7 23, .tmp 8]) rfl (by simp) (.cell rA 29 #[.slice none 0 0] (0, 0) _ rfl Z6o Try.underlying29 rfl Z6e (.cell hA 23 #[.int .i64 0, .int .i64 0, .int .i64 0, .int .i64 0, .int .i64 0, .int .i64 0, .int .i64 0, .int .i64 0, .int .i64 0, .bool false] (0, 0) _ rfl q6_1 Try.underlying23 rfl Z6e (.tmp .nil)))) rfl ?_
    exact ⟨_, Z6p, Z6ak, Z6f⟩
   ·replace c42 := Bool.eq_false_iff.mpr c42
    subst c42
    rw [if_neg (show ¬ (false = true) by decide)] at H
    have HC54 := Z6d H
    clear H
    have IO := VA.out
    have JO := DA.out
    have KO := dA.out
    have LO := sA.out
    have MO := aA.out
    have NO := tA.out
    have OO := XA.out
    have PO := KA.out
    have QO := UA.out
    have RO := LA.out
    have MJ := Z6b bA.out 0 (.int .i64 nA)
    have NJ := Z6b bA.out 1 (.int .i64 oA)
    have OJ := Z6b bA.out 2 (.int .i64 pA)
    have PJ := Z6b bA.out 3 (.int .i64 kA)
    have QJ := Z6b bA.out 4 (.int .i64 uA)
    have RJ := Z6b bA.out 5 (.int .i64 wA)
    have SJ := Z6b bA.out 6 (.int .i64 yA)
    have TJ := Z6b bA.out 7 (.int .i64 qA)
    have UJ := Z6b bA.out 8 (.int .i64 xA)
    have VJ := Z6b bA.out 9 (.bool vA)
    have WJ := Z6c bA.out 0
    have XJ := Z6c bA.out 1
    have YJ := Z6c bA.out 2
    have ZJ := Z6c bA.out 3
    have aK := Z6c bA.out 4
    have bK := Z6c bA.out 5
    have cK := Z6c bA.out 6
    have dK := Z6c bA.out 7
    have eK := Z6c bA.out 8
    have fK := Z6c bA.out 9
    go_upto_block 0 with (fail)
    go_cut [] (fun wc => ∃ (kq : Nat) (FA : Int) (MA : Int) (PA : Int) (dB : Int) (DB : Int) (PB : Int) (LB : Int) (GB : Int) (EB : Int) (vB : Int) (eB : Int) (QA : Int) (NA : Int) (GA : Int) (BA : Bool), Aside0 (spec_LiStep.j2 kq nA oA pA FA MA PA dB qA DB vA AA = some (r1, r2, r3, r4, r5, r6, r7, r8, r9, r10, r11, r12)) ∧ Aside0 (kq ≤ kj5) ∧ Aside0 (Kd.R (Kd.int .i64) 3 wc w.heap.size (fun _ => True) (.slice RA AA.length SA) AA) ∧ Aside0 (wc.heap[JA]? = some (.cells #[(.slice IB tB.length JB)] 29 (0, 0))) ∧ Aside0 (wc.heap[gA]? = some (.cells #[.int .i64 nA, .int .i64 oA, .int .i64 pA, .int .i64 FA, .int .i64 MA, .int .i64 PA, .int .i64 dB, .int .i64 qA, .int .i64 DB, .bool vA] 23 (0, 0))) ∧ Aside0 (wc.heap[rA]? = some (.cells #[(.slice none 0 0)] 29 (0, 0))) ∧ Aside0 (wc.heap[hA]? = some (.cells #[.int .i64 PB, .int .i64 LB, .int .i64 GB, .int .i64 EB, .int .i64 vB, .int .i64 eB, .int .i64 QA, .int .i64 NA, .int .i64 GA, .bool BA] 23 (0, 0))) ∧ Aside0 (wc.heap[WA]? = some (.cells #[.int .i64 MB, .int .i64 NB, .int .i64 OB, .int .i64 QB] 37 (0, 0))) ∧ Aside0 (wc.heap[IA]? = some (.cells #[(.slice RA AA.length SA)] 29 (0, 0))) ∧ Aside0 (Below w.heap.size w wc))
    case first =>
     have H := HC54.out
     clear HC54
     by_cases c61 : kA = 0
     ·rw [if_pos c61] at H
      have qC : (kA == 0) = true := beq_iff_eq.mpr c61
      have CH : (kA != 0) = false := bne_eq_false_iff_eq.mpr c61
      clear c61
      (first | rw [qC] | (simp only [i64_w, i32_w]; rw [qC]) | skip)
      replace H := Option.bind_eq_some_iff.mp H
      obtain ⟨HH, A620, H⟩ := H
      (try dsimp only at H)
      have A62 := Z6d A620
      clear A620
      by_cases c63 : HH = true
      ·subst c63
       rw [if_pos rfl] at H
       replace H := Option.bind_eq_some_iff.mp H
       obtain ⟨⟨aC, eC, iC, rC, AC, dD, vD, FD, jH, JH⟩, A640, H⟩ := H
       (try dsimp only at H)
       have A64 := Z6d A640
       clear A640
       simp only [Option.some.injEq, Prod.mk.injEq] at H
       obtain ⟨rfl, rfl, rfl, rfl, rfl, rfl, rfl, rfl, rfl, rfl, rfl, rfl⟩ := H
       try go_wp2_with (first | ((with_reducible refine gate_callee (f := 56) rfl ?_); refine goesL_ (some 58) rfl rfl Try.func56 Z6e rfl #[.int .i64 a0, .int .i64 zA] rfl Z6k ?_; (with_reducible refine (spec_l05Link.calls a0 zA true _ A62.out).mono ?_); rintro e w' ⟨rfl, ⟨nd, rfl⟩⟩; refine ⟨_, rfl, ?_⟩; (try (rw [drewN_self wc]; generalize hq_ : World.drewN wc _ = wc; have hB : Aside0 (Kd.R (Kd.int .i64) 3 wc w.heap.size (fun k_ => True) (.slice RA AA.length SA) AA) := ⟨by rw [← hq_]; exact Z6m⟩; have BB : Aside0 (wc.heap[JA]? = some (.cells #[.slice IB tB.length JB] 29 (0, 0))) := ⟨by rw [← hq_]; exact Z6j⟩; have iB : Aside0 (wc.heap[gA]? = some (.cells #[.int .i64 nA, .int .i64 oA, .int .i64 pA, .int .i64 kA, .int .i64 uA, .int .i64 wA, .int .i64 yA, .int .i64 qA, .int .i64 xA, .bool vA] 23 (0, 0))) := ⟨by rw [← hq_]; exact Z6h⟩; have jB : Aside0 (wc.heap[rA]? = some (.cells #[.slice none 0 0] 29 (0, 0))) := ⟨by rw [← hq_]; exact Z6g⟩; have uB : Aside0 (wc.heap[hA]? = some (.cells #[.int .i64 0, .int .i64 0, .int .i64 0, .int .i64 0, .int .i64 0, .int .i64 0, .int .i64 0, .int .i64 0, .int .i64 0, .bool false] 23 (0, 0))) := ⟨by rw [← hq_]; exact Z6i⟩; have FB : Aside0 (wc.heap[WA]? = some (.cells #[.int .i64 MB, .int .i64 NB, .int .i64 OB, .int .i64 QB] 37 (0, 0))) := ⟨by rw [← hq_]; exact Z6n⟩; have wB : Aside0 (wc.heap[IA]? = some (.cells #[.slice RA AA.length SA] 29 (0, 0))) := ⟨by rw [← hq_]; exact Z6l⟩; have CB : Aside0 (Below w.heap.size w wc) := ⟨by rw [← hq_]; exact Z6f⟩; clear fA jA bA iA cA mA lA HB hq_; have fA := hB; have jA := BB; have bA := iB; have iA := jB; have cA := uB; have mA := FB; have lA := wB; have HB := CB; clear hB BB iB jB uB FB wB CB)); have SO := VA.out; have TO := DA.out; have UO := dA.out; have VO := sA.out; have WO := aA.out; have XO := tA.out; have YO := XA.out; have ZO := KA.out; have aP := UA.out; have bP := LA.out; have gK := Z6b bA.out 0 (.int .i64 nA); have iK := Z6b bA.out 1 (.int .i64 oA); have jK := Z6b bA.out 2 (.int .i64 pA); have kK := Z6b bA.out 3 (.int .i64 kA); have lK := Z6b bA.out 4 (.int .i64 uA); have mK := Z6b bA.out 5 (.int .i64 wA); have nK := Z6b bA.out 6 (.int .i64 yA); have oK := Z6b bA.out 7 (.int .i64 qA); have pK := Z6b bA.out 8 (.int .i64 xA); have qK := Z6b bA.out 9 (.bool vA); have rK := Z6c bA.out 0; have sK := Z6c bA.out 1; have tK := Z6c bA.out 2; have uK := Z6c bA.out 3; have vK := Z6c bA.out 4; have wK := Z6c bA.out 5; have xK := Z6c bA.out 6; have yK := Z6c bA.out 7; have zK := Z6c bA.out 8; have AK := Z6c bA.out 9))
       have hB : Aside0 (Kd.R (Kd.int .i64) 3 (wc.setCell ⟨gA, 5, none⟩ (.int .i64 zA)) w.heap.size (fun _ => True) (.slice RA AA.length SA) AA) := ⟨by (with_reducible repeat (first | apply Kd.R_alloc | apply Kd.R_drewN | apply Kd.R_drew)); exact Kd.R_mono (Kd.R_far (p := ⟨gA, 5, none⟩) (Kd.R_types fA.out bA.out (by decide)) (fun _ hk => hk.2) (.int .i64 zA)) (fun _ hk => trivial)⟩
       have BB : Aside0 ((wc.setCell ⟨gA, 5, none⟩ (.int .i64 zA)).heap[JA]? = some (.cells #[.slice IB tB.length JB] 29 (0, 0))) := ⟨Z6z⟩
       have iB : Aside0 ((wc.setCell ⟨gA, 5, none⟩ (.int .i64 zA)).heap[gA]? = some (.cells #[.int .i64 nA, .int .i64 oA, .int .i64 pA, .int .i64 kA, .int .i64 uA, .int .i64 zA, .int .i64 yA, .int .i64 qA, .int .i64 xA, .bool vA] 23 (0, 0))) := ⟨by (with_reducible repeat (first | refine blk_drewN ?_ _ | refine blk_drew ?_ | refine blk_alloc ?_ _)); refine blk_put (cs := #[.int .i64 nA, .int .i64 oA, .int .i64 pA, .int .i64 kA, .int .i64 uA, .int .i64 wA, .int .i64 yA, .int .i64 qA, .int .i64 xA, .bool vA]) ?_ 5 _ rfl; (with_reducible repeat (first | refine blk_drewN ?_ _ | refine blk_drew ?_ | refine blk_alloc ?_ _)); exact bA.out⟩
       have jB : Aside0 ((wc.setCell ⟨gA, 5, none⟩ (.int .i64 zA)).heap[rA]? = some (.cells #[.slice none 0 0] 29 (0, 0))) := ⟨Z6w⟩
       have uB : Aside0 ((wc.setCell ⟨gA, 5, none⟩ (.int .i64 zA)).heap[hA]? = some (.cells #[.int .i64 0, .int .i64 0, .int .i64 0, .int .i64 0, .int .i64 0, .int .i64 0, .int .i64 0, .int .i64 0, .int .i64 0, .bool false] 23 (0, 0))) := ⟨Z6u⟩
       have FB : Aside0 ((wc.setCell ⟨gA, 5, none⟩ (.int .i64 zA)).heap[WA]? = some (.cells #[.int .i64 MB, .int .i64 NB, .int .i64 OB, .int .i64 QB] 37 (0, 0))) := ⟨Z6x⟩
       have wB : Aside0 ((wc.setCell ⟨gA, 5, none⟩ (.int .i64 zA)).heap[IA]? = some (.cells #[.slice RA AA.length SA] 29 (0, 0))) := ⟨Z6aa⟩
       have CB : Aside0 (Below w.heap.size w (wc.setCell ⟨gA, 5, none⟩ (.int .i64 zA))) := ⟨Z6f⟩
       (try clear fA)
       (try clear jA)
       (try clear bA)
       (try clear iA)
       (try clear cA)
       (try clear mA)
       (try clear lA)
       (try clear HB)
       generalize (wc.setCell ⟨gA, 5, none⟩ (.int .i64 zA)) = yQ at hB BB iB jB uB FB wB CB ⊢
       have fA := hB
       have jA := BB
       have bA := iB
       have iA := jB
       have cA := uB
       have mA := FB
       have lA := wB
       have HB := CB
       clear hB BB iB jB uB FB wB CB
       have hB := Z6d (Kd.R_drew fA.out)
       have BB := Z6d (blk_drew jA.out)
       have iB := Z6d (blk_drew bA.out)
       have jB := Z6d (blk_drew iA.out)
       have uB := Z6d (blk_drew cA.out)
       have FB := Z6d (blk_drew mA.out)
       have wB := Z6d (blk_drew lA.out)
       have CB := Z6d (below_drew1 HB.out)
       clear fA jA bA iA cA mA lA HB
       have fA := hB
       have jA := BB
       have bA := iB
       have iA := jB
       have cA := uB
       have mA := FB
       have lA := wB
       have HB := CB
       clear hB BB iB jB uB FB wB CB
       refine start_ (n := 7) (S := fun w' => w'.cell? ⟨IA, 0, none⟩ = some (.slice RA AA.length SA) ∧ w'.cell? ⟨gA, 0, none⟩ = some (.int .i64 nA) ∧ w'.cell? ⟨gA, 1, none⟩ = some (.int .i64 oA) ∧ w'.cell? ⟨gA, 2, none⟩ = some (.int .i64 pA) ∧ w'.cell? ⟨gA, 3, none⟩ = some (.int .i64 kA) ∧ w'.cell? ⟨gA, 4, none⟩ = some (.int .i64 uA) ∧ w'.cell? ⟨gA, 5, none⟩ = some (.int .i64 zA) ∧ w'.cell? ⟨gA, 6, none⟩ = some (.int .i64 yA) ∧ w'.cell? ⟨gA, 7, none⟩ = some (.int .i64 qA) ∧ w'.cell? ⟨gA, 8, none⟩ = some (.int .i64 xA) ∧ w'.cell? ⟨gA, 9, none⟩ = some (.bool vA)) (ds := []) #[F,F,F,F,F,F,F] Z6e rfl rfl ⟨(blk_cell lA.out 0).trans rfl, (blk_cell bA.out 0).trans rfl, (blk_cell bA.out 1).trans rfl, (blk_cell bA.out 2).trans rfl, (blk_cell bA.out 3).trans rfl, (blk_cell bA.out 4).trans rfl, (blk_cell bA.out 5).trans rfl, (blk_cell bA.out 6).trans rfl, (blk_cell bA.out 7).trans rfl, (blk_cell bA.out 8).trans rfl, (blk_cell bA.out 9).trans rfl⟩ (fun hHeld => ?_)
       generalize yQ.drew = WQ at fA jA bA iA cA mA lA HB hHeld ⊢
       refine pure_ (i := 1) (N := some 65) (v := ?_) (a' := ?_) #[F,T,F,F,F,F,F] rfl rfl Z6e (fun _ _ _ h => h) (Or.inl ⟨by rfl, ?_⟩) ?_ ?_
       rotate_left
       ·intro w'
        go_simp
        with_reducible rfl
       rotate_left
       ·simp only [Act.put, List.setIfInBounds_toArray, List.set_cons_zero, List.set_cons_succ, i64_w, i32_w]
        rfl
       refine take_ (i := 0) (N := some 64) (v := ?_) (a' := ?_) #[T,T,F,F,F,F,F] rfl rfl Z6e (fun _ _ _ h => h) (Or.inl ⟨by rfl, ?_⟩) hHeld ?_ ?_
       rotate_left
       ·rintro w' ⟨s0, s1, s2, s3, s4, s5, s6, s7, s8, s9, kH⟩
        go_simp
        with_reducible rfl
       rotate_left
       ·simp only [Act.put, List.setIfInBounds_toArray, List.set_cons_zero, List.set_cons_succ, i64_w, i32_w]
        rfl
       refine take_ (i := 2) (N := some 66) (v := ?_) (a' := ?_) #[T,T,T,F,F,F,F] rfl rfl Z6e (fun _ _ _ h => h) (Or.inl ⟨by rfl, ?_⟩) hHeld ?_ ?_
       rotate_left
       ·rintro w' ⟨s0, s1, s2, s3, s4, s5, s6, s7, s8, s9, kH⟩
        go_simp
        with_reducible rfl
       rotate_left
       ·simp only [Act.put, List.setIfInBounds_toArray, List.set_cons_zero, List.set_cons_succ, i64_w, i32_w]
        rfl
       refine one_ (i := 3) (N := some 67) #[T,T,T,T,F,F,F] rfl rfl Z6e (by decide) (fun K hK => ?_)
       refine goes_ Try.func57 Z6e rfl #[.int .i64 a0, .agg #[.int .i64 nA, .int .i64 oA, .int .i64 pA, .int .i64 kA, .int .i64 uA, .int .i64 zA, .int .i64 yA, .int .i64 qA, .int .i64 xA, .bool vA]] (by rfl) rfl rfl Z6k ?_
       with_reducible refine (spec_l05First.calls kj5 a0 nA oA pA kA uA zA yA qA xA vA aC eC iC rC AC dD vD FD jH JH _ A64.out).mono ?_
       rintro e XQ ⟨rfl, hb⟩
       refine ⟨_, rfl, ?_⟩
       have hB := Z6d (Kd.R_below Z6m hb)
       have iB := Z6d (blk_below (g := gA) (o := .cells #[.int .i64 nA, .int .i64 oA, .int .i64 pA, .int .i64 kA, .int .i64 uA, .int .i64 zA, .int .i64 yA, .int .i64 qA, .int .i64 xA, .bool vA] 23 (0, 0)) Z6h hb)
       have jB := Z6d (blk_below (g := rA) (o := .cells #[.slice none 0 0] 29 (0, 0)) Z6g hb)
       have uB := Z6d (blk_below (g := hA) (o := .cells #[.int .i64 0, .int .i64 0, .int .i64 0, .int .i64 0, .int .i64 0, .int .i64 0, .int .i64 0, .int .i64 0, .int .i64 0, .bool false] 23 (0, 0)) Z6i hb)
       have wB := Z6d (blk_below (g := IA) (o := .cells #[.slice RA AA.length SA] 29 (0, 0)) Z6l hb)
       have CB := Z6d (below_step Z6f hb)
       clear fA jA bA iA cA mA lA HB
       have fA := hB
       have bA := iB
       have iA := jB
       have cA := uB
       have lA := wB
       have HB := CB
       clear hB iB jB uB wB CB
       (try clear hb)
       (try clear hb2)
       (try clear hk)
       (try clear hi)
       refine hK.out _ _ ⟨(blk_cell lA.out 0).trans rfl, (blk_cell bA.out 0).trans rfl, (blk_cell bA.out 1).trans rfl, (blk_cell bA.out 2).trans rfl, (blk_cell bA.out 3).trans rfl, (blk_cell bA.out 4).trans rfl, (blk_cell bA.out 5).trans rfl, (blk_cell bA.out 6).trans rfl, (blk_cell bA.out 7).trans rfl, (blk_cell bA.out 8).trans rfl, (blk_cell bA.out 9).trans rfl⟩ (fun hHeld => ?_)
       clear hK K
       refine norm_ (a' := ?_) ?_ ?_
       rotate_left
       ·show Act.put _ (some 67) _ = _
        simp only [Act.put, List.setIfInBounds_toArray, List.set_cons_zero, List.set_cons_succ, i64_w, i32_w]
        rfl
       refine one_ (i := 4) (N := none) #[T,T,T,T,T,F,F] rfl rfl Z6e (by decide) (fun K hK => ?_)
       have zQ := Z6b iA.out 0 (.slice none 0 0)
       have cP := Z6c iA.out 0
       have BK := kB.out
       have CK := dA.out
       have DK := CA.out
       have EK := yB.out
       have FK := EA.out
       have GK := lB.out
       have HK := sA.out
       have IK := xB.out
       have JK := oB.out
       have KK := fB.out
       refine skip_ (w1 := ?_) (by rfl) rfl ?_ ?_
       rotate_left
       ·go_simp
        rfl
       refine hK.out _ _ ⟨((Z6a EA.out).trans (hHeld.1)), ((Z6a dA.out).trans (hHeld.2.1)), ((Z6a dA.out).trans (hHeld.2.2.1)), ((Z6a dA.out).trans (hHeld.2.2.2.1)), ((Z6a dA.out).trans (hHeld.2.2.2.2.1)), ((Z6a dA.out).trans (hHeld.2.2.2.2.2.1)), ((Z6a dA.out).trans (hHeld.2.2.2.2.2.2.1)), ((Z6a dA.out).trans (hHeld.2.2.2.2.2.2.2.1)), ((Z6a dA.out).trans (hHeld.2.2.2.2.2.2.2.2.1)), ((Z6a dA.out).trans (hHeld.2.2.2.2.2.2.2.2.2.1)), ((Z6a dA.out).trans (hHeld.2.2.2.2.2.2.2.2.2.2))⟩ (fun hHeld => ?_)
       clear hK K
       refine one_ (i := 5) (N := none) #[T,T,T,T,T,T,F] rfl rfl Z6e (by decide) (fun K hK => ?_)
       have AQ := Z6b cA.out 0 (.int .i64 0)
       have dP := Z6c cA.out 0
       have LK := mB.out
       have MK := aA.out
       have NK := zB.out
       have OK := eA.out
       have PK := nB.out
       have QK := tA.out
       have RK := pB.out
       have SK := gB.out
       have BQ := Z6b cA.out 1 (.int .i64 0)
       have eP := Z6c cA.out 1
       have CQ := Z6b cA.out 2 (.int .i64 0)
       have fP := Z6c cA.out 2
       have DQ := Z6b cA.out 3 (.int .i64 0)
       have gP := Z6c cA.out 3
       have EQ := Z6b cA.out 4 (.int .i64 0)
       have hP := Z6c cA.out 4
       have FQ := Z6b cA.out 5 (.int .i64 0)
       have iP := Z6c cA.out 5
       have GQ := Z6b cA.out 6 (.int .i64 0)
       have jP := Z6c cA.out 6
       have HQ := Z6b cA.out 7 (.int .i64 0)
       have kP := Z6c cA.out 7
       have IQ := Z6b cA.out 8 (.int .i64 0)
       have lP := Z6c cA.out 8
       have JQ := Z6b cA.out 9 (.bool false)
       have mP := Z6c cA.out 9
       refine skip_ (w1 := ?_) (by rfl) rfl ?_ ?_
       rotate_left
       ·go_simp
        rfl
       refine hK.out _ _ ⟨((Z6a eA.out).trans (((Z6a eA.out).trans (((Z6a eA.out).trans (((Z6a eA.out).trans (((Z6a eA.out).trans (((Z6a eA.out).trans (((Z6a eA.out).trans (((Z6a eA.out).trans (((Z6a eA.out).trans (((Z6a eA.out).trans (hHeld.1)))))))))))))))))))), ((Z6a aA.out).trans (((Z6a aA.out).trans (((Z6a aA.out).trans (((Z6a aA.out).trans (((Z6a aA.out).trans (((Z6a aA.out).trans (((Z6a aA.out).trans (((Z6a aA.out).trans (((Z6a aA.out).trans (((Z6a aA.out).trans (hHeld.2.1)))))))))))))))))))), ((Z6a aA.out).trans (((Z6a aA.out).trans (((Z6a aA.out).trans (((Z6a aA.out).trans (((Z6a aA.out).trans (((Z6a aA.out).trans (((Z6a aA.out).trans (((Z6a aA.out).trans (((Z6a aA.out).trans (((Z6a aA.out).trans (hHeld.2.2.1)))))))))))))))))))), ((Z6a aA.out).trans (((Z6a aA.out).trans (((Z6a aA.out).trans (((Z6a aA.out).trans (((Z6a aA.out).trans (((Z6a aA.out).trans (((Z6a aA.out).trans (((Z6a aA.out).trans (((Z6a aA.out).trans (((Z6a aA.out).trans (hHeld.2.2.2.1)))))))))))))))))))), ((Z6a aA.out).trans (((Z6a aA.out).trans (((Z6a aA.out).trans (((Z6a aA.out).trans (((Z6a aA.out).trans (((Z6a aA.out).trans (((Z6a aA.out).trans (((Z6a aA.out).trans (((Z6a aA.out).trans (((Z6a aA.out).trans (hHeld.2.2.2.2.1)))))))))))))))))))), ((Z6a aA.out).trans (((Z6a aA.out).trans (((Z6a aA.out).trans (((Z6a aA.out).trans (((Z6a aA.out).trans (((Z6a aA.out).trans (((Z6a aA.out).trans (((Z6a aA.out).trans (((Z6a aA.out).trans (((Z6a aA.out).trans (hHeld.2.2.2.2.2.1)))))))))))))))))))), ((Z6a aA.out).trans (((Z6a aA.out).trans (((Z6a aA.out).trans (((Z6a aA.out).trans (((Z6a aA.out).trans (((Z6a aA.out).trans (((Z6a aA.out).trans (((Z6a aA.out).trans (((Z6a aA.out).trans (((Z6a aA.out).trans (hHeld.2.2.2.2.2.2.1)))))))))))))))))))), ((Z6a aA.out).trans (((Z6a aA.out).trans (((Z6a aA.out).trans (((Z6a aA.out).trans (((Z6a aA.out).trans (((Z6a aA.out).trans (((Z6a aA.out).trans (((Z6a aA.out).trans (((Z6a aA.out).trans (((Z6a aA.out).trans (hHeld.2.2.2.2.2.2.2.1)))))))))))))))))))), ((Z6a aA.out).trans (((Z6a aA.out).trans (((Z6a aA.out).trans (((Z6a aA.out).trans (((Z6a aA.out).trans (((Z6a aA.out).trans (((Z6a aA.out).trans (((Z6a aA.out).trans (((Z6a aA.out).trans (((Z6a aA.out).trans (hHeld.2.2.2.2.2.2.2.2.1)))))))))))))))))))), ((Z6a aA.out).trans (((Z6a aA.out).trans (((Z6a aA.out).trans (((Z6a aA.out).trans (((Z6a aA.out).trans (((Z6a aA.out).trans (((Z6a aA.out).trans (((Z6a aA.out).trans (((Z6a aA.out).trans (((Z6a aA.out).trans (hHeld.2.2.2.2.2.2.2.2.2.1)))))))))))))))))))), ((Z6a aA.out).trans (((Z6a aA.out).trans (((Z6a aA.out).trans (((Z6a aA.out).trans (((Z6a aA.out).trans (((Z6a aA.out).trans (((Z6a aA.out).trans (((Z6a aA.out).trans (((Z6a aA.out).trans (((Z6a aA.out).trans (hHeld.2.2.2.2.2.2.2.2.2.2))))))))))))))))))))⟩ (fun hHeld => ?_)
       clear hK K
       refine pure_ (i := 6) (N := some 8) (v := ?_) (a' := ?_) #[T,T,T,T,T,T,T] rfl rfl Z6e (fun _ _ _ h => h) (Or.inl ⟨by rfl, ?_⟩) ?_ ?_
       rotate_left
       ·intro w'
        go_simp
        with_reducible rfl
       rotate_left
       ·simp only [Act.put, List.setIfInBounds_toArray, List.set_cons_zero, List.set_cons_succ, i64_w, i32_w]
        rfl
       refine done_ Z6e ?_
       try go_wp2
       refine bodyPost_ret (results_list (rs := [.cell 6 29, .cell 7 23, .tmp 8]) rfl (by simp) (.cell rA 29 #[.slice RA AA.length SA] (0, 0) _ rfl Z6o Try.underlying29 rfl Z6e (.cell hA 23 #[.int .i64 aC, .int .i64 eC, .int .i64 iC, .int .i64 rC, .int .i64 AC, .int .i64 dD, .int .i64 vD, .int .i64 FD, .int .i64 jH, .bool JH] (0, 0) _ rfl (by (with_reducible repeat (first | refine blk_drewN ?_ _ | refine blk_drew ?_ | refine blk_alloc ?_ _)); refine blk_put (cs := #[.int .i64 aC, .int .i64 eC, .int .i64 iC, .int .i64 rC, .int .i64 AC, .int .i64 dD, .int .i64 vD, .int .i64 FD, .int .i64 jH, .bool false]) ?_ 9 _ rfl; (with_reducible repeat (first | refine blk_drewN ?_ _ | refine blk_drew ?_ | refine blk_alloc ?_ _)); refine blk_put (cs := #[.int .i64 aC, .int .i64 eC, .int .i64 iC, .int .i64 rC, .int .i64 AC, .int .i64 dD, .int .i64 vD, .int .i64 FD, .int .i64 0, .bool false]) ?_ 8 _ rfl; (with_reducible repeat (first | refine blk_drewN ?_ _ | refine blk_drew ?_ | refine blk_alloc ?_ _)); refine blk_put (cs := #[.int .i64 aC, .int .i64 eC, .int .i64 iC, .int .i64 rC, .int .i64 AC, .int .i64 dD, .int .i64 vD, .int .i64 0, .int .i64 0, .bool false]) ?_ 7 _ rfl; (with_reducible repeat (first | refine blk_drewN ?_ _ | refine blk_drew ?_ | refine blk_alloc ?_ _)); refine blk_put (cs := #[.int .i64 aC, .int .i64 eC, .int .i64 iC, .int .i64 rC, .int .i64 AC, .int .i64 dD, .int .i64 0, .int .i64 0, .int .i64 0, .bool false]) ?_ 6 _ rfl; (with_reducible repeat (first | refine blk_drewN ?_ _ | refine blk_drew ?_ | refine blk_alloc ?_ _)); refine blk_put (cs := #[.int .i64 aC, .int .i64 eC, .int .i64 iC, .int .i64 rC, .int .i64 AC, .int .i64 0, .int .i64 0, .int .i64 0, .int .i64 0, .bool false]) ?_ 5 _ rfl; (with_reducible repeat (first | refine blk_drewN ?_ _ | refine blk_drew ?_ | refine blk_alloc ?_ _)); refine blk_put (cs := #[.int .i64 aC, .int .i64 eC, .int .i64 iC, .int .i64 rC, .int .i64 0, .int .i64 0, .int .i64 0, .int .i64 0, .int .i64 0, .bool false]) ?_ 4 _ rfl; (with_reducible repeat (first | refine blk_drewN ?_ _ | refine blk_drew ?_ | refine blk_alloc ?_ _)); refine blk_put (cs := #[.int .i64 aC, .int .i64 eC, .int .i64 iC, .int .i64 0, .int .i64 0, .int .i64 0, .int .i64 0, .int .i64 0, .int .i64 0, .bool false]) ?_ 3 _ rfl; (with_reducible repeat (first | refine blk_drewN ?_ _ | refine blk_drew ?_ | refine blk_alloc ?_ _)); refine blk_put (cs := #[.int .i64 aC, .int .i64 eC, .int .i64 0, .int .i64 0, .int .i64 0, .int .i64 0, .int .i64 0, .int .i64 0, .int .i64 0, .bool false]) ?_ 2 _ rfl; (with_reducible repeat (first | refine blk_drewN ?_ _ | refine blk_drew ?_ | refine blk_alloc ?_ _)); refine blk_put (cs := #[.int .i64 aC, .int .i64 0, .int .i64 0, .int .i64 0, .int .i64 0, .int .i64 0, .int .i64 0, .int .i64 0, .int .i64 0, .bool false]) ?_ 1 _ rfl; (with_reducible repeat (first | refine blk_drewN ?_ _ | refine blk_drew ?_ | refine blk_alloc ?_ _)); refine blk_put (cs := #[.int .i64 0, .int .i64 0, .int .i64 0, .int .i64 0, .int .i64 0, .int .i64 0, .int .i64 0, .int .i64 0, .int .i64 0, .bool false]) ?_ 0 _ rfl; (with_reducible repeat (first | refine blk_drewN ?_ _ | refine blk_drew ?_ | refine blk_alloc ?_ _)); refine blk_far ?_ CA.out _; (with_reducible repeat (first | refine blk_drewN ?_ _ | refine blk_drew ?_ | refine blk_alloc ?_ _)); exact cA.out) Try.underlying23 rfl Z6e (.tmp .nil)))) rfl ?_
       exact ⟨_, Z6p, by (with_reducible repeat (first | apply Kd.R_alloc | apply Kd.R_drewN | apply Kd.R_drew)); exact Kd.R_mono (Kd.R_far (p := ⟨hA, 9, none⟩) (Kd.R_far (p := ⟨hA, 8, none⟩) (Kd.R_far (p := ⟨hA, 7, none⟩) (Kd.R_far (p := ⟨hA, 6, none⟩) (Kd.R_far (p := ⟨hA, 5, none⟩) (Kd.R_far (p := ⟨hA, 4, none⟩) (Kd.R_far (p := ⟨hA, 3, none⟩) (Kd.R_far (p := ⟨hA, 2, none⟩) (Kd.R_far (p := ⟨hA, 1, none⟩) (Kd.R_far (p := ⟨hA, 0, none⟩) (Kd.R_far (p := ⟨rA, 0, none⟩) (Kd.R_types (Kd.R_types fA.out iA.out (by decide)) cA.out (by decide)) (fun _ hk => hk.1.2) (.slice RA AA.length SA)) (fun _ hk => hk.2) (.int .i64 aC)) (fun _ hk => hk.2) (.int .i64 eC)) (fun _ hk => hk.2) (.int .i64 iC)) (fun _ hk => hk.2) (.int .i64 rC)) (fun _ hk => hk.2) (.int .i64 AC)) (fun _ hk => hk.2) (.int .i64 dD)) (fun _ hk => hk.2) (.int .i64 vD)) (fun _ hk => hk.2) (.int .i64 FD)) (fun _ hk => hk.2) (.int .i64 jH)) (fun _ hk => hk.2) (.bool JH)) (fun _ hk => trivial), Z6f⟩
      ·replace c63 := Bool.eq_false_iff.mpr c63
       subst c63
       rw [if_neg (show ¬ (false = true) by decide)] at H
       simp only [Option.some.injEq, Prod.mk.injEq] at H
       obtain ⟨rfl, rfl, rfl, rfl, rfl, rfl, rfl, rfl, rfl, rfl, rfl, rfl⟩ := H
       go_wp2_with (first | ((with_reducible refine gate_callee (f := 56) rfl ?_); refine goesL_ (some 58) rfl rfl Try.func56 Z6e rfl #[.int .i64 a0, .int .i64 zA] rfl Z6k ?_; (with_reducible refine (spec_l05Link.calls a0 zA false _ A62.out).mono ?_); rintro e w' ⟨rfl, ⟨nd, rfl⟩⟩; refine ⟨_, rfl, ?_⟩; (try (rw [drewN_self wc]; generalize hq_ : World.drewN wc _ = wc; have hB : Aside0 (Kd.R (Kd.int .i64) 3 wc w.heap.size (fun k_ => True) (.slice RA AA.length SA) AA) := ⟨by rw [← hq_]; exact Z6m⟩; have BB : Aside0 (wc.heap[JA]? = some (.cells #[.slice IB tB.length JB] 29 (0, 0))) := ⟨by rw [← hq_]; exact Z6j⟩; have iB : Aside0 (wc.heap[gA]? = some (.cells #[.int .i64 nA, .int .i64 oA, .int .i64 pA, .int .i64 kA, .int .i64 uA, .int .i64 wA, .int .i64 yA, .int .i64 qA, .int .i64 xA, .bool vA] 23 (0, 0))) := ⟨by rw [← hq_]; exact Z6h⟩; have jB : Aside0 (wc.heap[rA]? = some (.cells #[.slice none 0 0] 29 (0, 0))) := ⟨by rw [← hq_]; exact Z6g⟩; have uB : Aside0 (wc.heap[hA]? = some (.cells #[.int .i64 0, .int .i64 0, .int .i64 0, .int .i64 0, .int .i64 0, .int .i64 0, .int .i64 0, .int .i64 0, .int .i64 0, .bool false] 23 (0, 0))) := ⟨by rw [← hq_]; exact Z6i⟩; have FB : Aside0 (wc.heap[WA]? = some (.cells #[.int .i64 MB, .int .i64 NB, .int .i64 OB, .int .i64 QB] 37 (0, 0))) := ⟨by rw [← hq_]; exact Z6n⟩; have wB : Aside0 (wc.heap[IA]? = some (.cells #[.slice RA AA.length SA] 29 (0, 0))) := ⟨by rw [← hq_]; exact Z6l⟩; have CB : Aside0 (Below w.heap.size w wc) := ⟨by rw [← hq_]; exact Z6f⟩; clear fA jA bA iA cA mA lA HB hq_; have fA := hB; have jA := BB; have bA := iB; have iA := jB; have cA := uB; have mA := FB; have lA := wB; have HB := CB; clear hB BB iB jB uB FB wB CB)); have nP := lB.out; have oP := kB.out; have pP := sA.out; have qP := dA.out; have rP := xB.out; have sP := CA.out; have tP := oB.out; have uP := yB.out; have vP := fB.out; have wP := EA.out; have lH := Z6b iA.out 0 (.slice none 0 0); have jD := Z6c iA.out 0; have xP := nB.out; have yP := mB.out; have zP := tA.out; have AP := aA.out; have BP := pB.out; have CP := zB.out; have DP := gB.out; have EP := eA.out; have mH := Z6b cA.out 0 (.int .i64 0); have nH := Z6b cA.out 1 (.int .i64 0); have oH := Z6b cA.out 2 (.int .i64 0); have pH := Z6b cA.out 3 (.int .i64 0); have qH := Z6b cA.out 4 (.int .i64 0); have rH := Z6b cA.out 5 (.int .i64 0); have sH := Z6b cA.out 6 (.int .i64 0); have tH := Z6b cA.out 7 (.int .i64 0); have uH := Z6b cA.out 8 (.int .i64 0); have vH := Z6b cA.out 9 (.bool false); have kD := Z6c cA.out 0; have lD := Z6c cA.out 1; have mD := Z6c cA.out 2; have nD := Z6c cA.out 3; have oD := Z6c cA.out 4; have pD := Z6c cA.out 5; have qD := Z6c cA.out 6; have rD := Z6c cA.out 7; have sD := Z6c cA.out 8; have tD := Z6c cA.out 9))
       refine bodyPost_ret (results_list (rs := [.cell 6 29, .cell 7 23, .tmp 8]) rfl (by simp) (.cell rA 29 #[.slice none 0 0] (0, 0) _ rfl Z6o Try.underlying29 rfl Z6e (.cell hA 23 #[.int .i64 0, .int .i64 0, .int .i64 0, .int .i64 0, .int .i64 0, .int .i64 0, .int .i64 0, .int .i64 0, .int .i64 0, .bool false] (0, 0) _ rfl q6_1 Try.underlying23 rfl Z6e (.tmp .nil)))) rfl ?_
       exact ⟨_, Z6p, Z6ak, Z6f⟩
     ·rw [if_neg c61] at H
      have qC : (kA == 0) = false := beq_eq_false_iff_ne.mpr c61
      have CH : (kA != 0) = true := bne_iff_ne.mpr c61
      (first | rw [qC] | (simp only [i64_w, i32_w]; rw [qC]) | skip)
      by_cases c96 : kA = 1
      ·rw [if_pos c96] at H
       have DH : (kA == 1) = true := beq_iff_eq.mpr c96
       have EH : (kA != 1) = false := bne_eq_false_iff_eq.mpr c96
       clear c96
       replace H := Option.bind_eq_some_iff.mp H
       obtain ⟨IH, A970, H⟩ := H
       (try dsimp only at H)
       have A97 := Z6d A970
       clear A970
       by_cases c98 : IH = true
       ·subst c98
        rw [if_pos rfl] at H
        by_cases c99 : (Int.tmod zA 2) = 1
        ·rw [if_pos c99] at H
         have FH : ((Int.tmod zA 2) == 1) = true := beq_iff_eq.mpr c99
         have GH : ((Int.tmod zA 2) != 1) = false := bne_eq_false_iff_eq.mpr c99
         clear c99
         by_cases c100 : nA = 3
         ·rw [if_pos c100] at H
          have GD : (nA == 3) = true := beq_iff_eq.mpr c100
          have HD : (nA != 3) = false := bne_eq_false_iff_eq.mpr c100
          clear c100
          have H' := Z6d H
          clear H
          go_wp2_with (first | ((with_reducible refine gate_callee (f := 56) rfl ?_); refine goesL_ (some 72) rfl rfl Try.func56 Z6e rfl #[.int .i64 a0, .int .i64 zA] rfl Z6k ?_; (with_reducible refine (spec_l05Link.calls a0 zA true _ A97.out).mono ?_); rintro e w' ⟨rfl, ⟨nd, rfl⟩⟩; refine ⟨_, rfl, ?_⟩; (try (rw [drewN_self wc]; generalize hq_ : World.drewN wc _ = wc; have hB : Aside0 (Kd.R (Kd.int .i64) 3 wc w.heap.size (fun k_ => True) (.slice RA AA.length SA) AA) := ⟨by rw [← hq_]; exact Z6m⟩; have BB : Aside0 (wc.heap[JA]? = some (.cells #[.slice IB tB.length JB] 29 (0, 0))) := ⟨by rw [← hq_]; exact Z6j⟩; have iB : Aside0 (wc.heap[gA]? = some (.cells #[.int .i64 nA, .int .i64 oA, .int .i64 pA, .int .i64 kA, .int .i64 uA, .int .i64 wA, .int .i64 yA, .int .i64 qA, .int .i64 xA, .bool vA] 23 (0, 0))) := ⟨by rw [← hq_]; exact Z6h⟩; have jB : Aside0 (wc.heap[rA]? = some (.cells #[.slice none 0 0] 29 (0, 0))) := ⟨by rw [← hq_]; exact Z6g⟩; have uB : Aside0 (wc.heap[hA]? = some (.cells #[.int .i64 0, .int .i64 0, .int .i64 0, .int .i64 0, .int .i64 0, .int .i64 0, .int .i64 0, .int .i64 0, .int .i64 0, .bool false] 23 (0, 0))) := ⟨by rw [← hq_]; exact Z6i⟩; have FB : Aside0 (wc.heap[WA]? = some (.cells #[.int .i64 MB, .int .i64 NB, .int .i64 OB, .int .i64 QB] 37 (0, 0))) := ⟨by rw [← hq_]; exact Z6n⟩; have wB : Aside0 (wc.heap[IA]? = some (.cells #[.slice RA AA.length SA] 29 (0, 0))) := ⟨by rw [← hq_]; exact Z6l⟩; have CB : Aside0 (Below w.heap.size w wc) := ⟨by rw [← hq_]; exact Z6f⟩; clear fA jA bA iA cA mA lA HB hq_; have fA := hB; have jA := BB; have bA := iB; have iA := jB; have cA := uB; have mA := FB; have lA := wB; have HB := CB; clear hB BB iB jB uB FB wB CB)); have UK := VA.out; have VK := DA.out; have WK := dA.out; have XK := sA.out; have YK := aA.out; have ZK := tA.out; have aL := XA.out; have bL := KA.out; have cL := UA.out; have dL := LA.out; have ID := Z6b bA.out 0 (.int .i64 nA); have JD := Z6b bA.out 1 (.int .i64 oA); have KD := Z6b bA.out 2 (.int .i64 pA); have LD := Z6b bA.out 3 (.int .i64 kA); have MD := Z6b bA.out 4 (.int .i64 uA); have ND := Z6b bA.out 5 (.int .i64 wA); have OD := Z6b bA.out 6 (.int .i64 yA); have PD := Z6b bA.out 7 (.int .i64 qA); have QD := Z6b bA.out 8 (.int .i64 xA); have RD := Z6b bA.out 9 (.bool vA); have SD := Z6c bA.out 0; have TD := Z6c bA.out 1; have UD := Z6c bA.out 2; have VD := Z6c bA.out 3; have WD := Z6c bA.out 4; have XD := Z6c bA.out 5; have YD := Z6c bA.out 6; have ZD := Z6c bA.out 7; have aE := Z6c bA.out 8; have bE := Z6c bA.out 9))
          go_meet
          case rel => exact ⟨_, (2), (uA), (wA), (zA), (xA), (0), (0), (0), (0), (0), (0), (0), (0), (0), (false), H', ⟨Z6q⟩, ⟨Z6ac⟩, ⟨Z6af⟩, ⟨Z6ay⟩, ⟨Z6am⟩, ⟨Z6au⟩, ⟨Z6ar⟩, ⟨Z6at⟩, ⟨Z6f⟩⟩
         ·rw [if_neg c100] at H
          have GD : (nA == 3) = false := beq_eq_false_iff_ne.mpr c100
          have HD : (nA != 3) = true := bne_iff_ne.mpr c100
          have H' := Z6d H
          clear H
          go_wp2_with (first | ((with_reducible refine gate_callee (f := 56) rfl ?_); refine goesL_ (some 72) rfl rfl Try.func56 Z6e rfl #[.int .i64 a0, .int .i64 zA] rfl Z6k ?_; (with_reducible refine (spec_l05Link.calls a0 zA true _ A97.out).mono ?_); rintro e w' ⟨rfl, ⟨nd, rfl⟩⟩; refine ⟨_, rfl, ?_⟩; (try (rw [drewN_self wc]; generalize hq_ : World.drewN wc _ = wc; have hB : Aside0 (Kd.R (Kd.int .i64) 3 wc w.heap.size (fun k_ => True) (.slice RA AA.length SA) AA) := ⟨by rw [← hq_]; exact Z6m⟩; have BB : Aside0 (wc.heap[JA]? = some (.cells #[.slice IB tB.length JB] 29 (0, 0))) := ⟨by rw [← hq_]; exact Z6j⟩; have iB : Aside0 (wc.heap[gA]? = some (.cells #[.int .i64 nA, .int .i64 oA, .int .i64 pA, .int .i64 kA, .int .i64 uA, .int .i64 wA, .int .i64 yA, .int .i64 qA, .int .i64 xA, .bool vA] 23 (0, 0))) := ⟨by rw [← hq_]; exact Z6h⟩; have jB : Aside0 (wc.heap[rA]? = some (.cells #[.slice none 0 0] 29 (0, 0))) := ⟨by rw [← hq_]; exact Z6g⟩; have uB : Aside0 (wc.heap[hA]? = some (.cells #[.int .i64 0, .int .i64 0, .int .i64 0, .int .i64 0, .int .i64 0, .int .i64 0, .int .i64 0, .int .i64 0, .int .i64 0, .bool false] 23 (0, 0))) := ⟨by rw [← hq_]; exact Z6i⟩; have FB : Aside0 (wc.heap[WA]? = some (.cells #[.int .i64 MB, .int .i64 NB, .int .i64 OB, .int .i64 QB] 37 (0, 0))) := ⟨by rw [← hq_]; exact Z6n⟩; have wB : Aside0 (wc.heap[IA]? = some (.cells #[.slice RA AA.length SA] 29 (0, 0))) := ⟨by rw [← hq_]; exact Z6l⟩; have CB : Aside0 (Below w.heap.size w wc) := ⟨by rw [← hq_]; exact Z6f⟩; clear fA jA bA iA cA mA lA HB hq_; have fA := hB; have jA := BB; have bA := iB; have iA := jB; have cA := uB; have mA := FB; have lA := wB; have HB := CB; clear hB BB iB jB uB FB wB CB)); have eL := VA.out; have fL := DA.out; have gL := dA.out; have hL := sA.out; have iL := aA.out; have jL := tA.out; have kL := XA.out; have lL := KA.out; have mL := UA.out; have nL := LA.out; have cE := Z6b bA.out 0 (.int .i64 nA); have dE := Z6b bA.out 1 (.int .i64 oA); have eE := Z6b bA.out 2 (.int .i64 pA); have fE := Z6b bA.out 3 (.int .i64 kA); have gE := Z6b bA.out 4 (.int .i64 uA); have hE := Z6b bA.out 5 (.int .i64 wA); have iE := Z6b bA.out 6 (.int .i64 yA); have jE := Z6b bA.out 7 (.int .i64 qA); have kE := Z6b bA.out 8 (.int .i64 xA); have lE := Z6b bA.out 9 (.bool vA); have mE := Z6c bA.out 0; have nE := Z6c bA.out 1; have oE := Z6c bA.out 2; have pE := Z6c bA.out 3; have qE := Z6c bA.out 4; have rE := Z6c bA.out 5; have sE := Z6c bA.out 6; have tE := Z6c bA.out 7; have uE := Z6c bA.out 8; have vE := Z6c bA.out 9))
          go_meet
          case rel => exact ⟨_, (3), (uA), (wA), (zA), (xA), (0), (0), (0), (0), (0), (0), (0), (0), (0), (false), H', ⟨Z6q⟩, ⟨Z6ac⟩, ⟨by (iterate 3 ((with_reducible repeat (first | refine blk_drewN ?_ _ | refine blk_drew ?_ | refine blk_alloc ?_ _)); refine blk_far ?_ DA.out _)); (with_reducible repeat (first | refine blk_drewN ?_ _ | refine blk_drew ?_ | refine blk_alloc ?_ _)); exact jA.out⟩, ⟨by (with_reducible repeat (first | refine blk_drewN ?_ _ | refine blk_drew ?_ | refine blk_alloc ?_ _)); refine blk_put (cs := #[.int .i64 nA, .int .i64 oA, .int .i64 pA, .int .i64 2, .int .i64 uA, .int .i64 wA, .int .i64 zA, .int .i64 qA, .int .i64 xA, .bool vA]) ?_ 3 _ rfl; (with_reducible repeat (first | refine blk_drewN ?_ _ | refine blk_drew ?_ | refine blk_alloc ?_ _)); refine blk_put (cs := #[.int .i64 nA, .int .i64 oA, .int .i64 pA, .int .i64 kA, .int .i64 uA, .int .i64 wA, .int .i64 zA, .int .i64 qA, .int .i64 xA, .bool vA]) ?_ 3 _ rfl; (with_reducible repeat (first | refine blk_drewN ?_ _ | refine blk_drew ?_ | refine blk_alloc ?_ _)); refine blk_put (cs := #[.int .i64 nA, .int .i64 oA, .int .i64 pA, .int .i64 kA, .int .i64 uA, .int .i64 wA, .int .i64 yA, .int .i64 qA, .int .i64 xA, .bool vA]) ?_ 6 _ rfl; (with_reducible repeat (first | refine blk_drewN ?_ _ | refine blk_drew ?_ | refine blk_alloc ?_ _)); exact bA.out⟩, ⟨by (iterate 3 ((with_reducible repeat (first | refine blk_drewN ?_ _ | refine blk_drew ?_ | refine blk_alloc ?_ _)); refine blk_far ?_ sA.out _)); (with_reducible repeat (first | refine blk_drewN ?_ _ | refine blk_drew ?_ | refine blk_alloc ?_ _)); exact iA.out⟩, ⟨by (iterate 3 ((with_reducible repeat (first | refine blk_drewN ?_ _ | refine blk_drew ?_ | refine blk_alloc ?_ _)); refine blk_far ?_ tA.out _)); (with_reducible repeat (first | refine blk_drewN ?_ _ | refine blk_drew ?_ | refine blk_alloc ?_ _)); exact cA.out⟩, ⟨by (iterate 3 ((with_reducible repeat (first | refine blk_drewN ?_ _ | refine blk_drew ?_ | refine blk_alloc ?_ _)); refine blk_far ?_ KA.out _)); (with_reducible repeat (first | refine blk_drewN ?_ _ | refine blk_drew ?_ | refine blk_alloc ?_ _)); exact mA.out⟩, ⟨by (iterate 3 ((with_reducible repeat (first | refine blk_drewN ?_ _ | refine blk_drew ?_ | refine blk_alloc ?_ _)); refine blk_far ?_ LA.out _)); (with_reducible repeat (first | refine blk_drewN ?_ _ | refine blk_drew ?_ | refine blk_alloc ?_ _)); exact lA.out⟩, ⟨Z6f⟩⟩
        ·rw [if_neg c99] at H
         have FH : ((Int.tmod zA 2) == 1) = false := beq_eq_false_iff_ne.mpr c99
         have GH : ((Int.tmod zA 2) != 1) = true := bne_iff_ne.mpr c99
         have H' := Z6d H
         clear H
         go_wp2_with (first | ((with_reducible refine gate_callee (f := 56) rfl ?_); refine goesL_ (some 72) rfl rfl Try.func56 Z6e rfl #[.int .i64 a0, .int .i64 zA] rfl Z6k ?_; (with_reducible refine (spec_l05Link.calls a0 zA true _ A97.out).mono ?_); rintro e w' ⟨rfl, ⟨nd, rfl⟩⟩; refine ⟨_, rfl, ?_⟩; (try (rw [drewN_self wc]; generalize hq_ : World.drewN wc _ = wc; have hB : Aside0 (Kd.R (Kd.int .i64) 3 wc w.heap.size (fun k_ => True) (.slice RA AA.length SA) AA) := ⟨by rw [← hq_]; exact Z6m⟩; have BB : Aside0 (wc.heap[JA]? = some (.cells #[.slice IB tB.length JB] 29 (0, 0))) := ⟨by rw [← hq_]; exact Z6j⟩; have iB : Aside0 (wc.heap[gA]? = some (.cells #[.int .i64 nA, .int .i64 oA, .int .i64 pA, .int .i64 kA, .int .i64 uA, .int .i64 wA, .int .i64 yA, .int .i64 qA, .int .i64 xA, .bool vA] 23 (0, 0))) := ⟨by rw [← hq_]; exact Z6h⟩; have jB : Aside0 (wc.heap[rA]? = some (.cells #[.slice none 0 0] 29 (0, 0))) := ⟨by rw [← hq_]; exact Z6g⟩; have uB : Aside0 (wc.heap[hA]? = some (.cells #[.int .i64 0, .int .i64 0, .int .i64 0, .int .i64 0, .int .i64 0, .int .i64 0, .int .i64 0, .int .i64 0, .int .i64 0, .bool false] 23 (0, 0))) := ⟨by rw [← hq_]; exact Z6i⟩; have FB : Aside0 (wc.heap[WA]? = some (.cells #[.int .i64 MB, .int .i64 NB, .int .i64 OB, .int .i64 QB] 37 (0, 0))) := ⟨by rw [← hq_]; exact Z6n⟩; have wB : Aside0 (wc.heap[IA]? = some (.cells #[.slice RA AA.length SA] 29 (0, 0))) := ⟨by rw [← hq_]; exact Z6l⟩; have CB : Aside0 (Below w.heap.size w wc) := ⟨by rw [← hq_]; exact Z6f⟩; clear fA jA bA iA cA mA lA HB hq_; have fA := hB; have jA := BB; have bA := iB; have iA := jB; have cA := uB; have mA := FB; have lA := wB; have HB := CB; clear hB BB iB jB uB FB wB CB)); have oL := VA.out; have pL := DA.out; have qL := dA.out; have rL := sA.out; have sL := aA.out; have tL := tA.out; have uL := XA.out; have vL := KA.out; have wL := UA.out; have xL := LA.out; have wE := Z6b bA.out 0 (.int .i64 nA); have xE := Z6b bA.out 1 (.int .i64 oA); have yE := Z6b bA.out 2 (.int .i64 pA); have zE := Z6b bA.out 3 (.int .i64 kA); have AE := Z6b bA.out 4 (.int .i64 uA); have BE := Z6b bA.out 5 (.int .i64 wA); have CE := Z6b bA.out 6 (.int .i64 yA); have DE := Z6b bA.out 7 (.int .i64 qA); have EE := Z6b bA.out 8 (.int .i64 xA); have FE := Z6b bA.out 9 (.bool vA); have GE := Z6c bA.out 0; have HE := Z6c bA.out 1; have IE := Z6c bA.out 2; have JE := Z6c bA.out 3; have KE := Z6c bA.out 4; have LE := Z6c bA.out 5; have ME := Z6c bA.out 6; have NE := Z6c bA.out 7; have OE := Z6c bA.out 8; have PE := Z6c bA.out 9))
         go_meet
         case rel => exact ⟨_, (2), (uA), (wA), (zA), (xA), (0), (0), (0), (0), (0), (0), (0), (0), (0), (false), H', ⟨Z6q⟩, ⟨Z6ac⟩, ⟨Z6af⟩, ⟨Z6ay⟩, ⟨Z6am⟩, ⟨Z6au⟩, ⟨Z6ar⟩, ⟨Z6at⟩, ⟨Z6f⟩⟩
       ·replace c98 := Bool.eq_false_iff.mpr c98
        subst c98
        rw [if_neg (show ¬ (false = true) by decide)] at H
        simp only [Option.some.injEq, Prod.mk.injEq] at H
        obtain ⟨rfl, rfl, rfl, rfl, rfl, rfl, rfl, rfl, rfl, rfl, rfl, rfl⟩ := H
        go_wp2_with (first | ((with_reducible refine gate_callee (f := 56) rfl ?_); refine goesL_ (some 72) rfl rfl Try.func56 Z6e rfl #[.int .i64 a0, .int .i64 zA] rfl Z6k ?_; (with_reducible refine (spec_l05Link.calls a0 zA false _ A97.out).mono ?_); rintro e w' ⟨rfl, ⟨nd, rfl⟩⟩; refine ⟨_, rfl, ?_⟩; (try (rw [drewN_self wc]; generalize hq_ : World.drewN wc _ = wc; have hB : Aside0 (Kd.R (Kd.int .i64) 3 wc w.heap.size (fun k_ => True) (.slice RA AA.length SA) AA) := ⟨by rw [← hq_]; exact Z6m⟩; have BB : Aside0 (wc.heap[JA]? = some (.cells #[.slice IB tB.length JB] 29 (0, 0))) := ⟨by rw [← hq_]; exact Z6j⟩; have iB : Aside0 (wc.heap[gA]? = some (.cells #[.int .i64 nA, .int .i64 oA, .int .i64 pA, .int .i64 kA, .int .i64 uA, .int .i64 wA, .int .i64 yA, .int .i64 qA, .int .i64 xA, .bool vA] 23 (0, 0))) := ⟨by rw [← hq_]; exact Z6h⟩; have jB : Aside0 (wc.heap[rA]? = some (.cells #[.slice none 0 0] 29 (0, 0))) := ⟨by rw [← hq_]; exact Z6g⟩; have uB : Aside0 (wc.heap[hA]? = some (.cells #[.int .i64 0, .int .i64 0, .int .i64 0, .int .i64 0, .int .i64 0, .int .i64 0, .int .i64 0, .int .i64 0, .int .i64 0, .bool false] 23 (0, 0))) := ⟨by rw [← hq_]; exact Z6i⟩; have FB : Aside0 (wc.heap[WA]? = some (.cells #[.int .i64 MB, .int .i64 NB, .int .i64 OB, .int .i64 QB] 37 (0, 0))) := ⟨by rw [← hq_]; exact Z6n⟩; have wB : Aside0 (wc.heap[IA]? = some (.cells #[.slice RA AA.length SA] 29 (0, 0))) := ⟨by rw [← hq_]; exact Z6l⟩; have CB : Aside0 (Below w.heap.size w wc) := ⟨by rw [← hq_]; exact Z6f⟩; clear fA jA bA iA cA mA lA HB hq_; have fA := hB; have jA := BB; have bA := iB; have iA := jB; have cA := uB; have mA := FB; have lA := wB; have HB := CB; clear hB BB iB jB uB FB wB CB)); have yL := lB.out; have zL := kB.out; have AL := sA.out; have BL := dA.out; have CL := xB.out; have DL := CA.out; have EL := oB.out; have FL := yB.out; have GL := fB.out; have HL := EA.out; have QE := Z6b iA.out 0 (.slice none 0 0); have RE := Z6c iA.out 0; have IL := nB.out; have JL := mB.out; have KL := tA.out; have LL := aA.out; have ML := pB.out; have NL := zB.out; have OL := gB.out; have PL := eA.out; have SE := Z6b cA.out 0 (.int .i64 0); have TE := Z6b cA.out 1 (.int .i64 0); have UE := Z6b cA.out 2 (.int .i64 0); have VE := Z6b cA.out 3 (.int .i64 0); have WE := Z6b cA.out 4 (.int .i64 0); have XE := Z6b cA.out 5 (.int .i64 0); have YE := Z6b cA.out 6 (.int .i64 0); have ZE := Z6b cA.out 7 (.int .i64 0); have aF := Z6b cA.out 8 (.int .i64 0); have bF := Z6b cA.out 9 (.bool false); have cF := Z6c cA.out 0; have dF := Z6c cA.out 1; have eF := Z6c cA.out 2; have fF := Z6c cA.out 3; have gF := Z6c cA.out 4; have hF := Z6c cA.out 5; have iF := Z6c cA.out 6; have jF := Z6c cA.out 7; have kF := Z6c cA.out 8; have lF := Z6c cA.out 9))
        refine bodyPost_ret (results_list (rs := [.cell 6 29, .cell 7 23, .tmp 8]) rfl (by simp) (.cell rA 29 #[.slice none 0 0] (0, 0) _ rfl Z6o Try.underlying29 rfl Z6e (.cell hA 23 #[.int .i64 0, .int .i64 0, .int .i64 0, .int .i64 0, .int .i64 0, .int .i64 0, .int .i64 0, .int .i64 0, .int .i64 0, .bool false] (0, 0) _ rfl q6_1 Try.underlying23 rfl Z6e (.tmp .nil)))) rfl ?_
        exact ⟨_, Z6p, Z6ak, Z6f⟩
      ·rw [if_neg c96] at H
       have DH : (kA == 1) = false := beq_eq_false_iff_ne.mpr c96
       have EH : (kA != 1) = true := bne_iff_ne.mpr c96
       by_cases c130 : kA = 2
       ·rw [if_pos c130] at H
        have mF : (kA == 2) = true := beq_iff_eq.mpr c130
        have nF : (kA != 2) = false := bne_eq_false_iff_eq.mpr c130
        clear c130
        replace H := Option.bind_eq_some_iff.mp H
        obtain ⟨⟨bC, fC, jC, sC, BC, eD, wD, oF, wH, KH⟩, A1310, H⟩ := H
        (try dsimp only at H)
        have A131 := Z6d A1310
        clear A1310
        simp only [Option.some.injEq, Prod.mk.injEq] at H
        obtain ⟨rfl, rfl, rfl, rfl, rfl, rfl, rfl, rfl, rfl, rfl, rfl, rfl⟩ := H
        have QL := VA.out
        have RL := DA.out
        have SL := dA.out
        have TL := sA.out
        have UL := aA.out
        have VL := tA.out
        have WL := XA.out
        have XL := KA.out
        have YL := UA.out
        have ZL := LA.out
        have pF := Z6b bA.out 0 (.int .i64 nA)
        have qF := Z6b bA.out 1 (.int .i64 oA)
        have rF := Z6b bA.out 2 (.int .i64 pA)
        have sF := Z6b bA.out 3 (.int .i64 kA)
        have tF := Z6b bA.out 4 (.int .i64 uA)
        have uF := Z6b bA.out 5 (.int .i64 wA)
        have vF := Z6b bA.out 6 (.int .i64 yA)
        have wF := Z6b bA.out 7 (.int .i64 qA)
        have xF := Z6b bA.out 8 (.int .i64 xA)
        have yF := Z6b bA.out 9 (.bool vA)
        have zF := Z6c bA.out 0
        have AF := Z6c bA.out 1
        have BF := Z6c bA.out 2
        have CF := Z6c bA.out 3
        have DF := Z6c bA.out 4
        have CC := Z6c bA.out 5
        have DC := Z6c bA.out 6
        have EC := Z6c bA.out 7
        have FC := Z6c bA.out 8
        have GC := Z6c bA.out 9
        try go_wp2
        have hB : Aside0 (Kd.R (Kd.int .i64) 3 (wc.setCell ⟨gA, 8, none⟩ (.int .i64 zA)) w.heap.size (fun _ => True) (.slice RA AA.length SA) AA) := ⟨by (with_reducible repeat (first | apply Kd.R_alloc | apply Kd.R_drewN | apply Kd.R_drew)); exact Kd.R_mono (Kd.R_far (p := ⟨gA, 8, none⟩) (Kd.R_types fA.out bA.out (by decide)) (fun _ hk => hk.2) (.int .i64 zA)) (fun _ hk => trivial)⟩
        have BB : Aside0 ((wc.setCell ⟨gA, 8, none⟩ (.int .i64 zA)).heap[JA]? = some (.cells #[.slice IB tB.length JB] 29 (0, 0))) := ⟨Z6z⟩
        have iB : Aside0 ((wc.setCell ⟨gA, 8, none⟩ (.int .i64 zA)).heap[gA]? = some (.cells #[.int .i64 nA, .int .i64 oA, .int .i64 pA, .int .i64 kA, .int .i64 uA, .int .i64 wA, .int .i64 yA, .int .i64 qA, .int .i64 zA, .bool vA] 23 (0, 0))) := ⟨by (with_reducible repeat (first | refine blk_drewN ?_ _ | refine blk_drew ?_ | refine blk_alloc ?_ _)); refine blk_put (cs := #[.int .i64 nA, .int .i64 oA, .int .i64 pA, .int .i64 kA, .int .i64 uA, .int .i64 wA, .int .i64 yA, .int .i64 qA, .int .i64 xA, .bool vA]) ?_ 8 _ rfl; (with_reducible repeat (first | refine blk_drewN ?_ _ | refine blk_drew ?_ | refine blk_alloc ?_ _)); exact bA.out⟩
        have jB : Aside0 ((wc.setCell ⟨gA, 8, none⟩ (.int .i64 zA)).heap[rA]? = some (.cells #[.slice none 0 0] 29 (0, 0))) := ⟨Z6w⟩
        have uB : Aside0 ((wc.setCell ⟨gA, 8, none⟩ (.int .i64 zA)).heap[hA]? = some (.cells #[.int .i64 0, .int .i64 0, .int .i64 0, .int .i64 0, .int .i64 0, .int .i64 0, .int .i64 0, .int .i64 0, .int .i64 0, .bool false] 23 (0, 0))) := ⟨Z6u⟩
        have FB : Aside0 ((wc.setCell ⟨gA, 8, none⟩ (.int .i64 zA)).heap[WA]? = some (.cells #[.int .i64 MB, .int .i64 NB, .int .i64 OB, .int .i64 QB] 37 (0, 0))) := ⟨Z6x⟩
        have wB : Aside0 ((wc.setCell ⟨gA, 8, none⟩ (.int .i64 zA)).heap[IA]? = some (.cells #[.slice RA AA.length SA] 29 (0, 0))) := ⟨Z6aa⟩
        have CB : Aside0 (Below w.heap.size w (wc.setCell ⟨gA, 8, none⟩ (.int .i64 zA))) := ⟨Z6f⟩
        (try clear fA)
        (try clear jA)
        (try clear bA)
        (try clear iA)
        (try clear cA)
        (try clear mA)
        (try clear lA)
        (try clear HB)
        generalize (wc.setCell ⟨gA, 8, none⟩ (.int .i64 zA)) = aM at hB BB iB jB uB FB wB CB ⊢
        have fA := hB
        have jA := BB
        have bA := iB
        have iA := jB
        have cA := uB
        have mA := FB
        have lA := wB
        have HB := CB
        clear hB BB iB jB uB FB wB CB
        have hB := Z6d (Kd.R_drew fA.out)
        have BB := Z6d (blk_drew jA.out)
        have iB := Z6d (blk_drew bA.out)
        have jB := Z6d (blk_drew iA.out)
        have uB := Z6d (blk_drew cA.out)
        have FB := Z6d (blk_drew mA.out)
        have wB := Z6d (blk_drew lA.out)
        have CB := Z6d (below_drew1 HB.out)
        clear fA jA bA iA cA mA lA HB
        have fA := hB
        have jA := BB
        have bA := iB
        have iA := jB
        have cA := uB
        have mA := FB
        have lA := wB
        have HB := CB
        clear hB BB iB jB uB FB wB CB
        refine start_ (n := 6) (S := fun w' => w'.cell? ⟨IA, 0, none⟩ = some (.slice RA AA.length SA) ∧ w'.cell? ⟨gA, 0, none⟩ = some (.int .i64 nA) ∧ w'.cell? ⟨gA, 1, none⟩ = some (.int .i64 oA) ∧ w'.cell? ⟨gA, 2, none⟩ = some (.int .i64 pA) ∧ w'.cell? ⟨gA, 3, none⟩ = some (.int .i64 kA) ∧ w'.cell? ⟨gA, 4, none⟩ = some (.int .i64 uA) ∧ w'.cell? ⟨gA, 5, none⟩ = some (.int .i64 wA) ∧ w'.cell? ⟨gA, 6, none⟩ = some (.int .i64 yA) ∧ w'.cell? ⟨gA, 7, none⟩ = some (.int .i64 qA) ∧ w'.cell? ⟨gA, 8, none⟩ = some (.int .i64 zA) ∧ w'.cell? ⟨gA, 9, none⟩ = some (.bool vA)) (ds := []) #[F,F,F,F,F,F] Z6e rfl rfl ⟨(blk_cell lA.out 0).trans rfl, (blk_cell bA.out 0).trans rfl, (blk_cell bA.out 1).trans rfl, (blk_cell bA.out 2).trans rfl, (blk_cell bA.out 3).trans rfl, (blk_cell bA.out 4).trans rfl, (blk_cell bA.out 5).trans rfl, (blk_cell bA.out 6).trans rfl, (blk_cell bA.out 7).trans rfl, (blk_cell bA.out 8).trans rfl, (blk_cell bA.out 9).trans rfl⟩ (fun hHeld => ?_)
        generalize aM.drew = KQ at fA jA bA iA cA mA lA HB hHeld ⊢
        refine take_ (i := 0) (N := some 92) (v := ?_) (a' := ?_) #[T,F,F,F,F,F] rfl rfl Z6e (fun _ _ _ h => h) (Or.inl ⟨by rfl, ?_⟩) hHeld ?_ ?_
        rotate_left
        ·rintro w' ⟨s0, s1, s2, s3, s4, s5, s6, s7, s8, s9, kH⟩
         go_simp
         with_reducible rfl
        rotate_left
        ·simp only [Act.put, List.setIfInBounds_toArray, List.set_cons_zero, List.set_cons_succ, i64_w, i32_w]
         rfl
        refine take_ (i := 1) (N := some 93) (v := ?_) (a' := ?_) #[T,T,F,F,F,F] rfl rfl Z6e (fun _ _ _ h => h) (Or.inl ⟨by rfl, ?_⟩) hHeld ?_ ?_
        rotate_left
        ·rintro w' ⟨s0, s1, s2, s3, s4, s5, s6, s7, s8, s9, kH⟩
         go_simp
         with_reducible rfl
        rotate_left
        ·simp only [Act.put, List.setIfInBounds_toArray, List.set_cons_zero, List.set_cons_succ, i64_w, i32_w]
         rfl
        refine one_ (i := 2) (N := some 94) #[T,T,T,F,F,F] rfl rfl Z6e (by decide) (fun K hK => ?_)
        refine goes_ Try.func58 Z6e rfl #[.agg #[.int .i64 nA, .int .i64 oA, .int .i64 pA, .int .i64 kA, .int .i64 uA, .int .i64 wA, .int .i64 yA, .int .i64 qA, .int .i64 zA, .bool vA]] (by rfl) rfl rfl Z6k ?_
        with_reducible refine (spec_l05Key.calls kj5 nA oA pA kA uA wA yA qA zA vA bC fC jC sC BC eD wD oF wH KH _ A131.out).mono ?_
        rintro e LQ ⟨rfl, hb⟩
        refine ⟨_, rfl, ?_⟩
        have hB := Z6d (Kd.R_below Z6m hb)
        have iB := Z6d (blk_below (g := gA) (o := .cells #[.int .i64 nA, .int .i64 oA, .int .i64 pA, .int .i64 kA, .int .i64 uA, .int .i64 wA, .int .i64 yA, .int .i64 qA, .int .i64 zA, .bool vA] 23 (0, 0)) Z6h hb)
        have jB := Z6d (blk_below (g := rA) (o := .cells #[.slice none 0 0] 29 (0, 0)) Z6g hb)
        have uB := Z6d (blk_below (g := hA) (o := .cells #[.int .i64 0, .int .i64 0, .int .i64 0, .int .i64 0, .int .i64 0, .int .i64 0, .int .i64 0, .int .i64 0, .int .i64 0, .bool false] 23 (0, 0)) Z6i hb)
        have wB := Z6d (blk_below (g := IA) (o := .cells #[.slice RA AA.length SA] 29 (0, 0)) Z6l hb)
        have CB := Z6d (below_step Z6f hb)
        clear fA jA bA iA cA mA lA HB
        have fA := hB
        have bA := iB
        have iA := jB
        have cA := uB
        have lA := wB
        have HB := CB
        clear hB iB jB uB wB CB
        (try clear hb)
        (try clear hb2)
        (try clear hk)
        (try clear hi)
        refine hK.out _ _ ⟨(blk_cell lA.out 0).trans rfl, (blk_cell bA.out 0).trans rfl, (blk_cell bA.out 1).trans rfl, (blk_cell bA.out 2).trans rfl, (blk_cell bA.out 3).trans rfl, (blk_cell bA.out 4).trans rfl, (blk_cell bA.out 5).trans rfl, (blk_cell bA.out 6).trans rfl, (blk_cell bA.out 7).trans rfl, (blk_cell bA.out 8).trans rfl, (blk_cell bA.out 9).trans rfl⟩ (fun hHeld => ?_)
        clear hK K
        refine norm_ (a' := ?_) ?_ ?_
        rotate_left
        ·show Act.put _ (some 94) _ = _
         simp only [Act.put, List.setIfInBounds_toArray, List.set_cons_zero, List.set_cons_succ, i64_w, i32_w]
         rfl
        refine one_ (i := 3) (N := none) #[T,T,T,T,F,F] rfl rfl Z6e (by decide) (fun K hK => ?_)
        have FP := Z6b iA.out 0 (.slice none 0 0)
        have bM := Z6c iA.out 0
        have WH := kB.out
        have XH := dA.out
        have YH := CA.out
        have ZH := yB.out
        have aI := EA.out
        have bI := lB.out
        have cI := sA.out
        have dI := xB.out
        have eI := oB.out
        have fI := fB.out
        refine skip_ (w1 := ?_) (by rfl) rfl ?_ ?_
        rotate_left
        ·go_simp
         rfl
        refine hK.out _ _ ⟨((Z6a EA.out).trans (hHeld.1)), ((Z6a dA.out).trans (hHeld.2.1)), ((Z6a dA.out).trans (hHeld.2.2.1)), ((Z6a dA.out).trans (hHeld.2.2.2.1)), ((Z6a dA.out).trans (hHeld.2.2.2.2.1)), ((Z6a dA.out).trans (hHeld.2.2.2.2.2.1)), ((Z6a dA.out).trans (hHeld.2.2.2.2.2.2.1)), ((Z6a dA.out).trans (hHeld.2.2.2.2.2.2.2.1)), ((Z6a dA.out).trans (hHeld.2.2.2.2.2.2.2.2.1)), ((Z6a dA.out).trans (hHeld.2.2.2.2.2.2.2.2.2.1)), ((Z6a dA.out).trans (hHeld.2.2.2.2.2.2.2.2.2.2))⟩ (fun hHeld => ?_)
        clear hK K
        refine one_ (i := 4) (N := none) #[T,T,T,T,T,F] rfl rfl Z6e (by decide) (fun K hK => ?_)
        have GP := Z6b cA.out 0 (.int .i64 0)
        have cM := Z6c cA.out 0
        have gI := mB.out
        have hI := aA.out
        have iI := zB.out
        have jI := eA.out
        have kI := nB.out
        have lI := tA.out
        have mI := pB.out
        have nI := gB.out
        have HP := Z6b cA.out 1 (.int .i64 0)
        have dM := Z6c cA.out 1
        have IP := Z6b cA.out 2 (.int .i64 0)
        have eM := Z6c cA.out 2
        have JP := Z6b cA.out 3 (.int .i64 0)
        have fM := Z6c cA.out 3
        have KP := Z6b cA.out 4 (.int .i64 0)
        have gM := Z6c cA.out 4
        have LP := Z6b cA.out 5 (.int .i64 0)
        have hM := Z6c cA.out 5
        have MP := Z6b cA.out 6 (.int .i64 0)
        have iM := Z6c cA.out 6
        have NP := Z6b cA.out 7 (.int .i64 0)
        have jM := Z6c cA.out 7
        have OP := Z6b cA.out 8 (.int .i64 0)
        have kM := Z6c cA.out 8
        have PP := Z6b cA.out 9 (.bool false)
        have lM := Z6c cA.out 9
        refine skip_ (w1 := ?_) (by rfl) rfl ?_ ?_
        rotate_left
        ·go_simp
         rfl
        refine hK.out _ _ ⟨((Z6a eA.out).trans (((Z6a eA.out).trans (((Z6a eA.out).trans (((Z6a eA.out).trans (((Z6a eA.out).trans (((Z6a eA.out).trans (((Z6a eA.out).trans (((Z6a eA.out).trans (((Z6a eA.out).trans (((Z6a eA.out).trans (hHeld.1)))))))))))))))))))), ((Z6a aA.out).trans (((Z6a aA.out).trans (((Z6a aA.out).trans (((Z6a aA.out).trans (((Z6a aA.out).trans (((Z6a aA.out).trans (((Z6a aA.out).trans (((Z6a aA.out).trans (((Z6a aA.out).trans (((Z6a aA.out).trans (hHeld.2.1)))))))))))))))))))), ((Z6a aA.out).trans (((Z6a aA.out).trans (((Z6a aA.out).trans (((Z6a aA.out).trans (((Z6a aA.out).trans (((Z6a aA.out).trans (((Z6a aA.out).trans (((Z6a aA.out).trans (((Z6a aA.out).trans (((Z6a aA.out).trans (hHeld.2.2.1)))))))))))))))))))), ((Z6a aA.out).trans (((Z6a aA.out).trans (((Z6a aA.out).trans (((Z6a aA.out).trans (((Z6a aA.out).trans (((Z6a aA.out).trans (((Z6a aA.out).trans (((Z6a aA.out).trans (((Z6a aA.out).trans (((Z6a aA.out).trans (hHeld.2.2.2.1)))))))))))))))))))), ((Z6a aA.out).trans (((Z6a aA.out).trans (((Z6a aA.out).trans (((Z6a aA.out).trans (((Z6a aA.out).trans (((Z6a aA.out).trans (((Z6a aA.out).trans (((Z6a aA.out).trans (((Z6a aA.out).trans (((Z6a aA.out).trans (hHeld.2.2.2.2.1)))))))))))))))))))), ((Z6a aA.out).trans (((Z6a aA.out).trans (((Z6a aA.out).trans (((Z6a aA.out).trans (((Z6a aA.out).trans (((Z6a aA.out).trans (((Z6a aA.out).trans (((Z6a aA.out).trans (((Z6a aA.out).trans (((Z6a aA.out).trans (hHeld.2.2.2.2.2.1)))))))))))))))))))), ((Z6a aA.out).trans (((Z6a aA.out).trans (((Z6a aA.out).trans (((Z6a aA.out).trans (((Z6a aA.out).trans (((Z6a aA.out).trans (((Z6a aA.out).trans (((Z6a aA.out).trans (((Z6a aA.out).trans (((Z6a aA.out).trans (hHeld.2.2.2.2.2.2.1)))))))))))))))))))), ((Z6a aA.out).trans (((Z6a aA.out).trans (((Z6a aA.out).trans (((Z6a aA.out).trans (((Z6a aA.out).trans (((Z6a aA.out).trans (((Z6a aA.out).trans (((Z6a aA.out).trans (((Z6a aA.out).trans (((Z6a aA.out).trans (hHeld.2.2.2.2.2.2.2.1)))))))))))))))))))), ((Z6a aA.out).trans (((Z6a aA.out).trans (((Z6a aA.out).trans (((Z6a aA.out).trans (((Z6a aA.out).trans (((Z6a aA.out).trans (((Z6a aA.out).trans (((Z6a aA.out).trans (((Z6a aA.out).trans (((Z6a aA.out).trans (hHeld.2.2.2.2.2.2.2.2.1)))))))))))))))))))), ((Z6a aA.out).trans (((Z6a aA.out).trans (((Z6a aA.out).trans (((Z6a aA.out).trans (((Z6a aA.out).trans (((Z6a aA.out).trans (((Z6a aA.out).trans (((Z6a aA.out).trans (((Z6a aA.out).trans (((Z6a aA.out).trans (hHeld.2.2.2.2.2.2.2.2.2.1)))))))))))))))))))), ((Z6a aA.out).trans (((Z6a aA.out).trans (((Z6a aA.out).trans (((Z6a aA.out).trans (((Z6a aA.out).trans (((Z6a aA.out).trans (((Z6a aA.out).trans (((Z6a aA.out).trans (((Z6a aA.out).trans (((Z6a aA.out).trans (hHeld.2.2.2.2.2.2.2.2.2.2))))))))))))))))))))⟩ (fun hHeld => ?_)
        clear hK K
        refine pure_ (i := 5) (N := some 8) (v := ?_) (a' := ?_) #[T,T,T,T,T,T] rfl rfl Z6e (fun _ _ _ h => h) (Or.inl ⟨by rfl, ?_⟩) ?_ ?_
        rotate_left
        ·intro w'
         go_simp
         with_reducible rfl
        rotate_left
        ·simp only [Act.put, List.setIfInBounds_toArray, List.set_cons_zero, List.set_cons_succ, i64_w, i32_w]
         rfl
        refine done_ Z6e ?_
        try go_wp2
        refine bodyPost_ret (results_list (rs := [.cell 6 29, .cell 7 23, .tmp 8]) rfl (by simp) (.cell rA 29 #[.slice RA AA.length SA] (0, 0) _ rfl Z6o Try.underlying29 rfl Z6e (.cell hA 23 #[.int .i64 bC, .int .i64 fC, .int .i64 jC, .int .i64 sC, .int .i64 BC, .int .i64 eD, .int .i64 wD, .int .i64 oF, .int .i64 wH, .bool KH] (0, 0) _ rfl (by (with_reducible repeat (first | refine blk_drewN ?_ _ | refine blk_drew ?_ | refine blk_alloc ?_ _)); refine blk_put (cs := #[.int .i64 bC, .int .i64 fC, .int .i64 jC, .int .i64 sC, .int .i64 BC, .int .i64 eD, .int .i64 wD, .int .i64 oF, .int .i64 wH, .bool false]) ?_ 9 _ rfl; (with_reducible repeat (first | refine blk_drewN ?_ _ | refine blk_drew ?_ | refine blk_alloc ?_ _)); refine blk_put (cs := #[.int .i64 bC, .int .i64 fC, .int .i64 jC, .int .i64 sC, .int .i64 BC, .int .i64 eD, .int .i64 wD, .int .i64 oF, .int .i64 0, .bool false]) ?_ 8 _ rfl; (with_reducible repeat (first | refine blk_drewN ?_ _ | refine blk_drew ?_ | refine blk_alloc ?_ _)); refine blk_put (cs := #[.int .i64 bC, .int .i64 fC, .int .i64 jC, .int .i64 sC, .int .i64 BC, .int .i64 eD, .int .i64 wD, .int .i64 0, .int .i64 0, .bool false]) ?_ 7 _ rfl; (with_reducible repeat (first | refine blk_drewN ?_ _ | refine blk_drew ?_ | refine blk_alloc ?_ _)); refine blk_put (cs := #[.int .i64 bC, .int .i64 fC, .int .i64 jC, .int .i64 sC, .int .i64 BC, .int .i64 eD, .int .i64 0, .int .i64 0, .int .i64 0, .bool false]) ?_ 6 _ rfl; (with_reducible repeat (first | refine blk_drewN ?_ _ | refine blk_drew ?_ | refine blk_alloc ?_ _)); refine blk_put (cs := #[.int .i64 bC, .int .i64 fC, .int .i64 jC, .int .i64 sC, .int .i64 BC, .int .i64 0, .int .i64 0, .int .i64 0, .int .i64 0, .bool false]) ?_ 5 _ rfl; (with_reducible repeat (first | refine blk_drewN ?_ _ | refine blk_drew ?_ | refine blk_alloc ?_ _)); refine blk_put (cs := #[.int .i64 bC, .int .i64 fC, .int .i64 jC, .int .i64 sC, .int .i64 0, .int .i64 0, .int .i64 0, .int .i64 0, .int .i64 0, .bool false]) ?_ 4 _ rfl; (with_reducible repeat (first | refine blk_drewN ?_ _ | refine blk_drew ?_ | refine blk_alloc ?_ _)); refine blk_put (cs := #[.int .i64 bC, .int .i64 fC, .int .i64 jC, .int .i64 0, .int .i64 0, .int .i64 0, .int .i64 0, .int .i64 0, .int .i64 0, .bool false]) ?_ 3 _ rfl; (with_reducible repeat (first | refine blk_drewN ?_ _ | refine blk_drew ?_ | refine blk_alloc ?_ _)); refine blk_put (cs := #[.int .i64 bC, .int .i64 fC, .int .i64 0, .int .i64 0, .int .i64 0, .int .i64 0, .int .i64 0, .int .i64 0, .int .i64 0, .bool false]) ?_ 2 _ rfl; (with_reducible repeat (first | refine blk_drewN ?_ _ | refine blk_drew ?_ | refine blk_alloc ?_ _)); refine blk_put (cs := #[.int .i64 bC, .int .i64 0, .int .i64 0, .int .i64 0, .int .i64 0, .int .i64 0, .int .i64 0, .int .i64 0, .int .i64 0, .bool false]) ?_ 1 _ rfl; (with_reducible repeat (first | refine blk_drewN ?_ _ | refine blk_drew ?_ | refine blk_alloc ?_ _)); refine blk_put (cs := #[.int .i64 0, .int .i64 0, .int .i64 0, .int .i64 0, .int .i64 0, .int .i64 0, .int .i64 0, .int .i64 0, .int .i64 0, .bool false]) ?_ 0 _ rfl; (with_reducible repeat (first | refine blk_drewN ?_ _ | refine blk_drew ?_ | refine blk_alloc ?_ _)); refine blk_far ?_ CA.out _; (with_reducible repeat (first | refine blk_drewN ?_ _ | refine blk_drew ?_ | refine blk_alloc ?_ _)); exact cA.out) Try.underlying23 rfl Z6e (.tmp .nil)))) rfl ?_
        exact ⟨_, Z6p, by (with_reducible repeat (first | apply Kd.R_alloc | apply Kd.R_drewN | apply Kd.R_drew)); exact Kd.R_mono (Kd.R_far (p := ⟨hA, 9, none⟩) (Kd.R_far (p := ⟨hA, 8, none⟩) (Kd.R_far (p := ⟨hA, 7, none⟩) (Kd.R_far (p := ⟨hA, 6, none⟩) (Kd.R_far (p := ⟨hA, 5, none⟩) (Kd.R_far (p := ⟨hA, 4, none⟩) (Kd.R_far (p := ⟨hA, 3, none⟩) (Kd.R_far (p := ⟨hA, 2, none⟩) (Kd.R_far (p := ⟨hA, 1, none⟩) (Kd.R_far (p := ⟨hA, 0, none⟩) (Kd.R_far (p := ⟨rA, 0, none⟩) (Kd.R_types (Kd.R_types fA.out iA.out (by decide)) cA.out (by decide)) (fun _ hk => hk.1.2) (.slice RA AA.length SA)) (fun _ hk => hk.2) (.int .i64 bC)) (fun _ hk => hk.2) (.int .i64 fC)) (fun _ hk => hk.2) (.int .i64 jC)) (fun _ hk => hk.2) (.int .i64 sC)) (fun _ hk => hk.2) (.int .i64 BC)) (fun _ hk => hk.2) (.int .i64 eD)) (fun _ hk => hk.2) (.int .i64 wD)) (fun _ hk => hk.2) (.int .i64 oF)) (fun _ hk => hk.2) (.int .i64 wH)) (fun _ hk => hk.2) (.bool KH)) (fun _ hk => trivial), Z6f⟩
       ·rw [if_neg c130] at H
        have mF : (kA == 2) = false := beq_eq_false_iff_ne.mpr c130
        have nF : (kA != 2) = true := bne_iff_ne.mpr c130
        by_cases c152 : kA = 3
        ·rw [if_pos c152] at H
         have EF : (kA == 3) = true := beq_iff_eq.mpr c152
         have FF : (kA != 3) = false := bne_eq_false_iff_eq.mpr c152
         clear c152
         by_cases c153 : zA = 0
         ·rw [if_pos c153] at H
          have GF : (zA == 0) = true := beq_iff_eq.mpr c153
          have HF : (zA != 0) = false := bne_eq_false_iff_eq.mpr c153
          clear c153
          have H' := Z6d H
          clear H
          have mM := VA.out
          have nM := DA.out
          have oM := dA.out
          have pM := sA.out
          have qM := aA.out
          have rM := tA.out
          have sM := XA.out
          have tM := KA.out
          have uM := UA.out
          have vM := LA.out
          have IF := Z6b bA.out 0 (.int .i64 nA)
          have JF := Z6b bA.out 1 (.int .i64 oA)
          have KF := Z6b bA.out 2 (.int .i64 pA)
          have LF := Z6b bA.out 3 (.int .i64 kA)
          have MF := Z6b bA.out 4 (.int .i64 uA)
          have NF := Z6b bA.out 5 (.int .i64 wA)
          have OF := Z6b bA.out 6 (.int .i64 yA)
          have PF := Z6b bA.out 7 (.int .i64 qA)
          have QF := Z6b bA.out 8 (.int .i64 xA)
          have RF := Z6b bA.out 9 (.bool vA)
          have HC := Z6c bA.out 0
          have IC := Z6c bA.out 1
          have JC := Z6c bA.out 2
          have KC := Z6c bA.out 3
          have LC := Z6c bA.out 4
          have MC := Z6c bA.out 5
          have NC := Z6c bA.out 6
          have OC := Z6c bA.out 7
          have PC := Z6c bA.out 8
          have QC := Z6c bA.out 9
          go_wp2
          go_meet
          case rel => exact ⟨_, (0), (0), (wA), (yA), (xA), (0), (0), (0), (0), (0), (0), (0), (0), (0), (false), H', ⟨Z6q⟩, ⟨Z6ac⟩, ⟨Z6af⟩, ⟨by (with_reducible repeat (first | refine blk_drewN ?_ _ | refine blk_drew ?_ | refine blk_alloc ?_ _)); refine blk_put (cs := #[.int .i64 nA, .int .i64 oA, .int .i64 pA, .int .i64 0, .int .i64 uA, .int .i64 wA, .int .i64 yA, .int .i64 qA, .int .i64 xA, .bool vA]) ?_ 4 _ rfl; (with_reducible repeat (first | refine blk_drewN ?_ _ | refine blk_drew ?_ | refine blk_alloc ?_ _)); refine blk_put (cs := #[.int .i64 nA, .int .i64 oA, .int .i64 pA, .int .i64 kA, .int .i64 uA, .int .i64 wA, .int .i64 yA, .int .i64 qA, .int .i64 xA, .bool vA]) ?_ 3 _ rfl; (with_reducible repeat (first | refine blk_drewN ?_ _ | refine blk_drew ?_ | refine blk_alloc ?_ _)); exact bA.out⟩, ⟨Z6am⟩, ⟨Z6au⟩, ⟨Z6ar⟩, ⟨Z6at⟩, ⟨Z6f⟩⟩
         ·rw [if_neg c153] at H
          have GF : (zA == 0) = false := beq_eq_false_iff_ne.mpr c153
          have HF : (zA != 0) = true := bne_iff_ne.mpr c153
          have H' := Z6d H
          clear H
          have wM := VA.out
          have xM := DA.out
          have yM := dA.out
          have zM := sA.out
          have AM := aA.out
          have BM := tA.out
          have CM := XA.out
          have DM := KA.out
          have EM := UA.out
          have FM := LA.out
          have SF := Z6b bA.out 0 (.int .i64 nA)
          have TF := Z6b bA.out 1 (.int .i64 oA)
          have UF := Z6b bA.out 2 (.int .i64 pA)
          have VF := Z6b bA.out 3 (.int .i64 kA)
          have WF := Z6b bA.out 4 (.int .i64 uA)
          have XF := Z6b bA.out 5 (.int .i64 wA)
          have YF := Z6b bA.out 6 (.int .i64 yA)
          have ZF := Z6b bA.out 7 (.int .i64 qA)
          have aG := Z6b bA.out 8 (.int .i64 xA)
          have bG := Z6b bA.out 9 (.bool vA)
          have RC := Z6c bA.out 0
          have SC := Z6c bA.out 1
          have TC := Z6c bA.out 2
          have UC := Z6c bA.out 3
          have VC := Z6c bA.out 4
          have WC := Z6c bA.out 5
          have XC := Z6c bA.out 6
          have YC := Z6c bA.out 7
          have ZC := Z6c bA.out 8
          have aD := Z6c bA.out 9
          go_wp2
          go_meet
          case rel => exact ⟨_, (0), (uA), (wA), (yA), (xA), (0), (0), (0), (0), (0), (0), (0), (0), (0), (false), H', ⟨Z6q⟩, ⟨by (with_reducible repeat (first | apply Kd.R_alloc | apply Kd.R_drewN | apply Kd.R_drew)); exact Kd.R_mono (Kd.R_far (p := ⟨gA, 3, none⟩) (Kd.R_types fA.out bA.out (by decide)) (fun _ hk => hk.2) (.int .i64 0)) (fun _ hk => trivial)⟩, ⟨Z6z⟩, ⟨Z6aw⟩, ⟨Z6w⟩, ⟨Z6u⟩, ⟨Z6x⟩, ⟨Z6aa⟩, ⟨Z6f⟩⟩
        ·rw [if_neg c152] at H
         have EF : (kA == 3) = false := beq_eq_false_iff_ne.mpr c152
         have FF : (kA != 3) = true := bne_iff_ne.mpr c152
         have HC166 := Z6d H
         clear H
         go_upto_if 101 with (fail)
         go_cut [101] (fun GM wc => ∃ (kq : Nat) (WB : Bool), GM = .bool WB ∧ Aside0 (spec_LiStep.j1 kq zA WB nA oA pA kA uA wA yA qA xA vA AA = some (r1, r2, r3, r4, r5, r6, r7, r8, r9, r10, r11, r12)) ∧ Aside0 (kq ≤ kj5) ∧ Aside0 (Kd.R (Kd.int .i64) 3 wc w.heap.size (fun _ => True) (.slice RA AA.length SA) AA) ∧ Aside0 (wc.heap[JA]? = some (.cells #[(.slice IB tB.length JB)] 29 (0, 0))) ∧ Aside0 (wc.heap[gA]? = some (.cells #[.int .i64 nA, .int .i64 oA, .int .i64 pA, .int .i64 kA, .int .i64 uA, .int .i64 wA, .int .i64 yA, .int .i64 qA, .int .i64 xA, .bool vA] 23 (0, 0))) ∧ Aside0 (wc.heap[rA]? = some (.cells #[(.slice none 0 0)] 29 (0, 0))) ∧ Aside0 (wc.heap[hA]? = some (.cells #[.int .i64 0, .int .i64 0, .int .i64 0, .int .i64 0, .int .i64 0, .int .i64 0, .int .i64 0, .int .i64 0, .int .i64 0, .bool false] 23 (0, 0))) ∧ Aside0 (wc.heap[WA]? = some (.cells #[.int .i64 MB, .int .i64 NB, .int .i64 OB, .int .i64 QB] 37 (0, 0))) ∧ Aside0 (wc.heap[IA]? = some (.cells #[(.slice RA AA.length SA)] 29 (0, 0))) ∧ Aside0 (Below w.heap.size w wc))
         case first =>
          have H := HC166.out
          clear HC166
          by_cases c167 : kA = 4
          ·rw [if_pos c167] at H
           have ZB : (kA == 4) = true := beq_iff_eq.mpr c167
           have cG : (kA != 4) = false := bne_eq_false_iff_eq.mpr c167
           clear c167
           (first | rw [ZB] | (simp only [i64_w, i32_w]; rw [ZB]) | skip)
           have H' := Z6d H
           clear H
           go_wp2
           go_meet
           case rel => exact ⟨_, ((kA == 4)), (by first | rfl | (simp; done) | (simp [*]; done)), H', ⟨Z6q⟩, ⟨Z6m⟩, ⟨Z6j⟩, ⟨Z6h⟩, ⟨Z6g⟩, ⟨Z6i⟩, ⟨Z6n⟩, ⟨Z6l⟩, ⟨Z6f⟩⟩
          ·rw [if_neg c167] at H
           have ZB : (kA == 4) = false := beq_eq_false_iff_ne.mpr c167
           have cG : (kA != 4) = true := bne_iff_ne.mpr c167
           (first | rw [ZB] | (simp only [i64_w, i32_w]; rw [ZB]) | skip)
           have H' := Z6d H
           clear H
           go_wp2
           go_meet
           case rel => exact ⟨_, ((kA == 5)), (by first | rfl | (simp; done) | (simp [*]; done)), H', ⟨Z6q⟩, ⟨Z6m⟩, ⟨Z6j⟩, ⟨Z6h⟩, ⟨Z6g⟩, ⟨Z6i⟩, ⟨Z6n⟩, ⟨Z6l⟩, ⟨Z6f⟩⟩
         case rest =>
          clear HC166
          (try clear c1); (try clear p2); (try clear c5); (try clear c6); (try clear c8); (try clear c9); (try clear c10); (try clear c11); (try clear c12); (try clear c13); (try clear c15); (try clear c16); (try clear c56); (try clear c58); (try clear c61); (try clear qC); (try clear CH); (try clear c63); (try clear c85); (try clear c86); (try clear c87); (try clear c88); (try clear c89); (try clear c91); (try clear c92); (try clear c93); (try clear c94); (try clear c96); (try clear DH); (try clear EH); (try clear c98); (try clear c99); (try clear FH); (try clear GH); (try clear c100); (try clear GD); (try clear HD); (try clear c101); (try clear c102); (try clear c103); (try clear c104); (try clear c105); (try clear c107); (try clear c108); (try clear c109); (try clear c110); (try clear c111); (try clear c113); (try clear c114); (try clear c115); (try clear c116); (try clear c117); (try clear c119); (try clear c120); (try clear c121); (try clear c122); (try clear c123); (try clear c125); (try clear c126); (try clear c127); (try clear c128); (try clear c130); (try clear mF); (try clear nF); (try clear c132); (try clear c133); (try clear c134); (try clear c135); (try clear c136); (try clear c152); (try clear EF); (try clear FF); (try clear c153); (try clear GF); (try clear HF); (try clear c154); (try clear c155); (try clear c156); (try clear c157); (try clear c158); (try clear c160); (try clear c161); (try clear c162); (try clear c163); (try clear c164); (try clear c167); (try clear ZB); (try clear cG); (try clear ID); (try clear JD); (try clear KD); (try clear LD); (try clear MD); (try clear ND); (try clear OD); (try clear PD); (try clear QD); (try clear RD); (try clear cE); (try clear dE); (try clear eE); (try clear fE); (try clear gE); (try clear hE); (try clear iE); (try clear jE); (try clear kE); (try clear lE); (try clear wE); (try clear xE); (try clear yE); (try clear zE); (try clear AE); (try clear BE); (try clear CE); (try clear DE); (try clear EE); (try clear FE); (try clear QE); (try clear SE); (try clear TE); (try clear UE); (try clear VE); (try clear WE); (try clear XE); (try clear YE); (try clear ZE); (try clear aF); (try clear bF); (try clear pF); (try clear qF); (try clear rF); (try clear sF); (try clear tF); (try clear uF); (try clear vF); (try clear wF); (try clear xF); (try clear yF); (try clear IF); (try clear JF); (try clear KF); (try clear LF); (try clear MF); (try clear NF); (try clear OF); (try clear PF); (try clear QF); (try clear RF); (try clear SF); (try clear TF); (try clear UF); (try clear VF); (try clear WF); (try clear XF); (try clear YF); (try clear ZF); (try clear aG); (try clear bG); (try clear lH); (try clear mH); (try clear nH); (try clear oH); (try clear pH); (try clear qH); (try clear rH); (try clear sH); (try clear tH); (try clear uH); (try clear vH); (try clear SD); (try clear TD); (try clear UD); (try clear VD); (try clear WD); (try clear XD); (try clear YD); (try clear ZD); (try clear aE); (try clear bE); (try clear mE); (try clear nE); (try clear oE); (try clear pE); (try clear qE); (try clear rE); (try clear sE); (try clear tE); (try clear uE); (try clear vE); (try clear GE); (try clear HE); (try clear IE); (try clear JE); (try clear KE); (try clear LE); (try clear ME); (try clear NE); (try clear OE); (try clear PE); (try clear RE); (try clear cF); (try clear dF); (try clear eF); (try clear fF); (try clear gF); (try clear hF); (try clear iF); (try clear jF); (try clear kF); (try clear lF); (try clear zF); (try clear AF); (try clear BF); (try clear CF); (try clear DF); (try clear CC); (try clear DC); (try clear EC); (try clear FC); (try clear GC); (try clear HC); (try clear IC); (try clear JC); (try clear KC); (try clear LC); (try clear MC); (try clear NC); (try clear OC); (try clear PC); (try clear QC); (try clear RC); (try clear SC); (try clear TC); (try clear UC); (try clear VC); (try clear WC); (try clear XC); (try clear YC); (try clear ZC); (try clear aD); (try clear jD); (try clear kD); (try clear lD); (try clear mD); (try clear nD); (try clear oD); (try clear pD); (try clear qD); (try clear rD); (try clear sD); (try clear tD)
          obtain ⟨kq, WB, rfl, HA, HJ165, fA, jA, bA, iA, cA, mA, lA, HB⟩ := hcut
          cases kq with
          | zero => exact absurd HA.out (by simp [spec_LiStep.j1])
          | succ kj165 =>
           have H := HA.out
           clear HA
           simp only [spec_LiStep.j1] at H
           by_cases c168 : WB = true
           ·subst c168
            rw [if_pos rfl] at H
            have H' := Z6d H
            clear H
            have HM := VA.out
            have IM := DA.out
            have JM := dA.out
            have KM := sA.out
            have LM := aA.out
            have MM := tA.out
            have NM := XA.out
            have OM := KA.out
            have PM := UA.out
            have QM := LA.out
            have dG := Z6b bA.out 0 (.int .i64 nA)
            have eG := Z6b bA.out 1 (.int .i64 oA)
            have fG := Z6b bA.out 2 (.int .i64 pA)
            have gG := Z6b bA.out 3 (.int .i64 kA)
            have hG := Z6b bA.out 4 (.int .i64 uA)
            have iG := Z6b bA.out 5 (.int .i64 wA)
            have jG := Z6b bA.out 6 (.int .i64 yA)
            have kG := Z6b bA.out 7 (.int .i64 qA)
            have lG := Z6b bA.out 8 (.int .i64 xA)
            have mG := Z6b bA.out 9 (.bool vA)
            have nG := Z6c bA.out 0
            have oG := Z6c bA.out 1
            have pG := Z6c bA.out 2
            have qG := Z6c bA.out 3
            have rG := Z6c bA.out 4
            have sG := Z6c bA.out 5
            have tG := Z6c bA.out 6
            have uG := Z6c bA.out 7
            have vG := Z6c bA.out 8
            have wG := Z6c bA.out 9
            go_wp2
            go_meet
            case rel => exact ⟨_, (wrap64 (kA + 1)), (uA), (wA), (yA), (xA), (0), (0), (0), (0), (0), (0), (0), (0), (0), (false), H', ⟨by have := HJ5.out; have := HJ165.out; first | omega | exact Nat.le_refl _⟩, ⟨by (with_reducible repeat (first | apply Kd.R_alloc | apply Kd.R_drewN | apply Kd.R_drew)); exact Kd.R_mono (Kd.R_far (p := ⟨gA, 3, none⟩) (Kd.R_types fA.out bA.out (by decide)) (fun _ hk => hk.2) (.int .i64 (wrap64 (kA + 1)))) (fun _ hk => trivial)⟩, ⟨Z6z⟩, ⟨Z6aw⟩, ⟨Z6w⟩, ⟨Z6u⟩, ⟨Z6x⟩, ⟨Z6aa⟩, ⟨Z6f⟩⟩
           ·replace c168 := Bool.eq_false_iff.mpr c168
            subst c168
            rw [if_neg (show ¬ (false = true) by decide)] at H
            by_cases c175 : zA = 0
            ·rw [if_pos c175] at H
             have xG : (zA == 0) = true := beq_iff_eq.mpr c175
             have yG : (zA != 0) = false := bne_eq_false_iff_eq.mpr c175
             clear c175
             replace H := Option.bind_eq_some_iff.mp H
             obtain ⟨⟨cC, gC, kC, tC, bD, fD, xD, zG, xH, LH⟩, A1760, H⟩ := H
             (try dsimp only at H)
             have A176 := Z6d A1760
             clear A1760
             simp only [Option.some.injEq, Prod.mk.injEq] at H
             obtain ⟨rfl, rfl, rfl, rfl, rfl, rfl, rfl, rfl, rfl, rfl, rfl, rfl⟩ := H
             try go_wp2
             have hB := Z6d (Kd.R_drew fA.out)
             have BB := Z6d (blk_drew jA.out)
             have iB := Z6d (blk_drew bA.out)
             have jB := Z6d (blk_drew iA.out)
             have uB := Z6d (blk_drew cA.out)
             have FB := Z6d (blk_drew mA.out)
             have wB := Z6d (blk_drew lA.out)
             have CB := Z6d (below_drew1 HB.out)
             clear fA jA bA iA cA mA lA HB
             have fA := hB
             have jA := BB
             have bA := iB
             have iA := jB
             have cA := uB
             have mA := FB
             have lA := wB
             have HB := CB
             clear hB BB iB jB uB FB wB CB
             refine start_ (n := 6) (S := fun w' => w'.cell? ⟨IA, 0, none⟩ = some (.slice RA AA.length SA) ∧ w'.cell? ⟨gA, 0, none⟩ = some (.int .i64 nA) ∧ w'.cell? ⟨gA, 1, none⟩ = some (.int .i64 oA) ∧ w'.cell? ⟨gA, 2, none⟩ = some (.int .i64 pA) ∧ w'.cell? ⟨gA, 3, none⟩ = some (.int .i64 kA) ∧ w'.cell? ⟨gA, 4, none⟩ = some (.int .i64 uA) ∧ w'.cell? ⟨gA, 5, none⟩ = some (.int .i64 wA) ∧ w'.cell? ⟨gA, 6, none⟩ = some (.int .i64 yA) ∧ w'.cell? ⟨gA, 7, none⟩ = some (.int .i64 qA) ∧ w'.cell? ⟨gA, 8, none⟩ = some (.int .i64 xA) ∧ w'.cell? ⟨gA, 9, none⟩ = some (.bool vA)) (ds := []) #[F,F,F,F,F,F] Z6e rfl rfl ⟨(blk_cell lA.out 0).trans rfl, (blk_cell bA.out 0).trans rfl, (blk_cell bA.out 1).trans rfl, (blk_cell bA.out 2).trans rfl, (blk_cell bA.out 3).trans rfl, (blk_cell bA.out 4).trans rfl, (blk_cell bA.out 5).trans rfl, (blk_cell bA.out 6).trans rfl, (blk_cell bA.out 7).trans rfl, (blk_cell bA.out 8).trans rfl, (blk_cell bA.out 9).trans rfl⟩ (fun hHeld => ?_)
             generalize wc.drew = MQ at fA jA bA iA cA mA lA HB hHeld ⊢
             refine take_ (i := 0) (N := some 48) (v := ?_) (a' := ?_) #[T,F,F,F,F,F] rfl rfl Z6e (fun _ _ _ h => h) (Or.inl ⟨by rfl, ?_⟩) hHeld ?_ ?_
             rotate_left
             ·rintro w' ⟨s0, s1, s2, s3, s4, s5, s6, s7, s8, s9, kH⟩
              go_simp
              with_reducible rfl
             rotate_left
             ·simp only [Act.put, List.setIfInBounds_toArray, List.set_cons_zero, List.set_cons_succ, i64_w, i32_w]
              rfl
             refine take_ (i := 1) (N := some 49) (v := ?_) (a' := ?_) #[T,T,F,F,F,F] rfl rfl Z6e (fun _ _ _ h => h) (Or.inl ⟨by rfl, ?_⟩) hHeld ?_ ?_
             rotate_left
             ·rintro w' ⟨s0, s1, s2, s3, s4, s5, s6, s7, s8, s9, kH⟩
              go_simp
              with_reducible rfl
             rotate_left
             ·simp only [Act.put, List.setIfInBounds_toArray, List.set_cons_zero, List.set_cons_succ, i64_w, i32_w]
              rfl
             refine one_ (i := 2) (N := some 50) #[T,T,T,F,F,F] rfl rfl Z6e (by decide) (fun K hK => ?_)
             refine goes_ Try.func59 Z6e rfl #[.agg #[.int .i64 nA, .int .i64 oA, .int .i64 pA, .int .i64 kA, .int .i64 uA, .int .i64 wA, .int .i64 yA, .int .i64 qA, .int .i64 xA, .bool vA]] (by rfl) rfl rfl Z6k ?_
             with_reducible refine (spec_l05Again.calls nA oA pA kA uA wA yA qA xA vA cC gC kC tC bD fD xD zG xH LH _ A176.out).mono ?_
             rintro e NQ ⟨rfl, hb⟩
             refine ⟨_, rfl, ?_⟩
             have hB := Z6d (Kd.R_below Z6m hb)
             have iB := Z6d (blk_below (g := gA) (o := .cells #[.int .i64 nA, .int .i64 oA, .int .i64 pA, .int .i64 kA, .int .i64 uA, .int .i64 wA, .int .i64 yA, .int .i64 qA, .int .i64 xA, .bool vA] 23 (0, 0)) Z6h hb)
             have jB := Z6d (blk_below (g := rA) (o := .cells #[.slice none 0 0] 29 (0, 0)) Z6g hb)
             have uB := Z6d (blk_below (g := hA) (o := .cells #[.int .i64 0, .int .i64 0, .int .i64 0, .int .i64 0, .int .i64 0, .int .i64 0, .int .i64 0, .int .i64 0, .int .i64 0, .bool false] 23 (0, 0)) Z6i hb)
             have wB := Z6d (blk_below (g := IA) (o := .cells #[.slice RA AA.length SA] 29 (0, 0)) Z6l hb)
             have CB := Z6d (below_step Z6f hb)
             clear fA jA bA iA cA mA lA HB
             have fA := hB
             have bA := iB
             have iA := jB
             have cA := uB
             have lA := wB
             have HB := CB
             clear hB iB jB uB wB CB
             (try clear hb)
             (try clear hb2)
             (try clear hk)
             (try clear hi)
             refine hK.out _ _ ⟨(blk_cell lA.out 0).trans rfl, (blk_cell bA.out 0).trans rfl, (blk_cell bA.out 1).trans rfl, (blk_cell bA.out 2).trans rfl, (blk_cell bA.out 3).trans rfl, (blk_cell bA.out 4).trans rfl, (blk_cell bA.out 5).trans rfl, (blk_cell bA.out 6).trans rfl, (blk_cell bA.out 7).trans rfl, (blk_cell bA.out 8).trans rfl, (blk_cell bA.out 9).trans rfl⟩ (fun hHeld => ?_)
             clear hK K
             refine norm_ (a' := ?_) ?_ ?_
             rotate_left
             ·show Act.put _ (some 50) _ = _
              simp only [Act.put, List.setIfInBounds_toArray, List.set_cons_zero, List.set_cons_succ, i64_w, i32_w]
              rfl
             refine one_ (i := 3) (N := none) #[T,T,T,T,F,F] rfl rfl Z6e (by decide) (fun K hK => ?_)
             have QP := Z6b iA.out 0 (.slice none 0 0)
             have RM := Z6c iA.out 0
             have oI := kB.out
             have pI := dA.out
             have qI := CA.out
             have rI := yB.out
             have sI := EA.out
             have tI := lB.out
             have uI := sA.out
             have vI := xB.out
             have wI := oB.out
             have xI := fB.out
             refine skip_ (w1 := ?_) (by rfl) rfl ?_ ?_
             rotate_left
             ·go_simp
              rfl
             refine hK.out _ _ ⟨((Z6a EA.out).trans (hHeld.1)), ((Z6a dA.out).trans (hHeld.2.1)), ((Z6a dA.out).trans (hHeld.2.2.1)), ((Z6a dA.out).trans (hHeld.2.2.2.1)), ((Z6a dA.out).trans (hHeld.2.2.2.2.1)), ((Z6a dA.out).trans (hHeld.2.2.2.2.2.1)), ((Z6a dA.out).trans (hHeld.2.2.2.2.2.2.1)), ((Z6a dA.out).trans (hHeld.2.2.2.2.2.2.2.1)), ((Z6a dA.out).trans (hHeld.2.2.2.2.2.2.2.2.1)), ((Z6a dA.out).trans (hHeld.2.2.2.2.2.2.2.2.2.1)), ((Z6a dA.out).trans (hHeld.2.2.2.2.2.2.2.2.2.2))⟩ (fun hHeld => ?_)
             clear hK K
             refine one_ (i := 4) (N := none) #[T,T,T,T,T,F] rfl rfl Z6e (by decide) (fun K hK => ?_)
             have RP := Z6b cA.out 0 (.int .i64 0)
             have SM := Z6c cA.out 0
             have yI := mB.out
             have zI := aA.out
             have AI := zB.out
             have BI := eA.out
             have CI := nB.out
             have DI := tA.out
             have EI := pB.out
             have FI := gB.out
             have SP := Z6b cA.out 1 (.int .i64 0)
             have TM := Z6c cA.out 1
             have TP := Z6b cA.out 2 (.int .i64 0)
             have UM := Z6c cA.out 2
             have UP := Z6b cA.out 3 (.int .i64 0)
             have VM := Z6c cA.out 3
             have VP := Z6b cA.out 4 (.int .i64 0)
             have WM := Z6c cA.out 4
             have WP := Z6b cA.out 5 (.int .i64 0)
             have XM := Z6c cA.out 5
             have XP := Z6b cA.out 6 (.int .i64 0)
             have YM := Z6c cA.out 6
             have YP := Z6b cA.out 7 (.int .i64 0)
             have ZM := Z6c cA.out 7
             have ZP := Z6b cA.out 8 (.int .i64 0)
             have aN := Z6c cA.out 8
             have aQ := Z6b cA.out 9 (.bool false)
             have bN := Z6c cA.out 9
             refine skip_ (w1 := ?_) (by rfl) rfl ?_ ?_
             rotate_left
             ·go_simp
              rfl
             refine hK.out _ _ ⟨((Z6a eA.out).trans (((Z6a eA.out).trans (((Z6a eA.out).trans (((Z6a eA.out).trans (((Z6a eA.out).trans (((Z6a eA.out).trans (((Z6a eA.out).trans (((Z6a eA.out).trans (((Z6a eA.out).trans (((Z6a eA.out).trans (hHeld.1)))))))))))))))))))), ((Z6a aA.out).trans (((Z6a aA.out).trans (((Z6a aA.out).trans (((Z6a aA.out).trans (((Z6a aA.out).trans (((Z6a aA.out).trans (((Z6a aA.out).trans (((Z6a aA.out).trans (((Z6a aA.out).trans (((Z6a aA.out).trans (hHeld.2.1)))))))))))))))))))), ((Z6a aA.out).trans (((Z6a aA.out).trans (((Z6a aA.out).trans (((Z6a aA.out).trans (((Z6a aA.out).trans (((Z6a aA.out).trans (((Z6a aA.out).trans (((Z6a aA.out).trans (((Z6a aA.out).trans (((Z6a aA.out).trans (hHeld.2.2.1)))))))))))))))))))), ((Z6a aA.out).trans (((Z6a aA.out).trans (((Z6a aA.out).trans (((Z6a aA.out).trans (((Z6a aA.out).trans (((Z6a aA.out).trans (((Z6a aA.out).trans (((Z6a aA.out).trans (((Z6a aA.out).trans (((Z6a aA.out).trans (hHeld.2.2.2.1)))))))))))))))))))), ((Z6a aA.out).trans (((Z6a aA.out).trans (((Z6a aA.out).trans (((Z6a aA.out).trans (((Z6a aA.out).trans (((Z6a aA.out).trans (((Z6a aA.out).trans (((Z6a aA.out).trans (((Z6a aA.out).trans (((Z6a aA.out).trans (hHeld.2.2.2.2.1)))))))))))))))))))), ((Z6a aA.out).trans (((Z6a aA.out).trans (((Z6a aA.out).trans (((Z6a aA.out).trans (((Z6a aA.out).trans (((Z6a aA.out).trans (((Z6a aA.out).trans (((Z6a aA.out).trans (((Z6a aA.out).trans (((Z6a aA.out).trans (hHeld.2.2.2.2.2.1)))))))))))))))))))), ((Z6a aA.out).trans (((Z6a aA.out).trans (((Z6a aA.out).trans (((Z6a aA.out).trans (((Z6a aA.out).trans (((Z6a aA.out).trans (((Z6a aA.out).trans (((Z6a aA.out).trans (((Z6a aA.out).trans (((Z6a aA.out).trans (hHeld.2.2.2.2.2.2.1)))))))))))))))))))), ((Z6a aA.out).trans (((Z6a aA.out).trans (((Z6a aA.out).trans (((Z6a aA.out).trans (((Z6a aA.out).trans (((Z6a aA.out).trans (((Z6a aA.out).trans (((Z6a aA.out).trans (((Z6a aA.out).trans (((Z6a aA.out).trans (hHeld.2.2.2.2.2.2.2.1)))))))))))))))))))), ((Z6a aA.out).trans (((Z6a aA.out).trans (((Z6a aA.out).trans (((Z6a aA.out).trans (((Z6a aA.out).trans (((Z6a aA.out).trans (((Z6a aA.out).trans (((Z6a aA.out).trans (((Z6a aA.out).trans (((Z6a aA.out).trans (hHeld.2.2.2.2.2.2.2.2.1)))))))))))))))))))), ((Z6a aA.out).trans (((Z6a aA.out).trans (((Z6a aA.out).trans (((Z6a aA.out).trans (((Z6a aA.out).trans (((Z6a aA.out).trans (((Z6a aA.out).trans (((Z6a aA.out).trans (((Z6a aA.out).trans (((Z6a aA.out).trans (hHeld.2.2.2.2.2.2.2.2.2.1)))))))))))))))))))), ((Z6a aA.out).trans (((Z6a aA.out).trans (((Z6a aA.out).trans (((Z6a aA.out).trans (((Z6a aA.out).trans (((Z6a aA.out).trans (((Z6a aA.out).trans (((Z6a aA.out).trans (((Z6a aA.out).trans (((Z6a aA.out).trans (hHeld.2.2.2.2.2.2.2.2.2.2))))))))))))))))))))⟩ (fun hHeld => ?_)
             clear hK K
             refine pure_ (i := 5) (N := some 8) (v := ?_) (a' := ?_) #[T,T,T,T,T,T] rfl rfl Z6e (fun _ _ _ h => h) (Or.inl ⟨by rfl, ?_⟩) ?_ ?_
             rotate_left
             ·intro w'
              go_simp
              with_reducible rfl
             rotate_left
             ·simp only [Act.put, List.setIfInBounds_toArray, List.set_cons_zero, List.set_cons_succ, i64_w, i32_w]
              rfl
             refine done_ Z6e ?_
             try go_wp2
             refine bodyPost_ret (results_list (rs := [.cell 6 29, .cell 7 23, .tmp 8]) rfl (by simp) (.cell rA 29 #[.slice RA AA.length SA] (0, 0) _ rfl Z6o Try.underlying29 rfl Z6e (.cell hA 23 #[.int .i64 cC, .int .i64 gC, .int .i64 kC, .int .i64 tC, .int .i64 bD, .int .i64 fD, .int .i64 xD, .int .i64 zG, .int .i64 xH, .bool LH] (0, 0) _ rfl (by (with_reducible repeat (first | refine blk_drewN ?_ _ | refine blk_drew ?_ | refine blk_alloc ?_ _)); refine blk_put (cs := #[.int .i64 cC, .int .i64 gC, .int .i64 kC, .int .i64 tC, .int .i64 bD, .int .i64 fD, .int .i64 xD, .int .i64 zG, .int .i64 xH, .bool false]) ?_ 9 _ rfl; (with_reducible repeat (first | refine blk_drewN ?_ _ | refine blk_drew ?_ | refine blk_alloc ?_ _)); refine blk_put (cs := #[.int .i64 cC, .int .i64 gC, .int .i64 kC, .int .i64 tC, .int .i64 bD, .int .i64 fD, .int .i64 xD, .int .i64 zG, .int .i64 0, .bool false]) ?_ 8 _ rfl; (with_reducible repeat (first | refine blk_drewN ?_ _ | refine blk_drew ?_ | refine blk_alloc ?_ _)); refine blk_put (cs := #[.int .i64 cC, .int .i64 gC, .int .i64 kC, .int .i64 tC, .int .i64 bD, .int .i64 fD, .int .i64 xD, .int .i64 0, .int .i64 0, .bool false]) ?_ 7 _ rfl; (with_reducible repeat (first | refine blk_drewN ?_ _ | refine blk_drew ?_ | refine blk_alloc ?_ _)); refine blk_put (cs := #[.int .i64 cC, .int .i64 gC, .int .i64 kC, .int .i64 tC, .int .i64 bD, .int .i64 fD, .int .i64 0, .int .i64 0, .int .i64 0, .bool false]) ?_ 6 _ rfl; (with_reducible repeat (first | refine blk_drewN ?_ _ | refine blk_drew ?_ | refine blk_alloc ?_ _)); refine blk_put (cs := #[.int .i64 cC, .int .i64 gC, .int .i64 kC, .int .i64 tC, .int .i64 bD, .int .i64 0, .int .i64 0, .int .i64 0, .int .i64 0, .bool false]) ?_ 5 _ rfl; (with_reducible repeat (first | refine blk_drewN ?_ _ | refine blk_drew ?_ | refine blk_alloc ?_ _)); refine blk_put (cs := #[.int .i64 cC, .int .i64 gC, .int .i64 kC, .int .i64 tC, .int .i64 0, .int .i64 0, .int .i64 0, .int .i64 0, .int .i64 0, .bool false]) ?_ 4 _ rfl; (with_reducible repeat (first | refine blk_drewN ?_ _ | refine blk_drew ?_ | refine blk_alloc ?_ _)); refine blk_put (cs := #[.int .i64 cC, .int .i64 gC, .int .i64 kC, .int .i64 0, .int .i64 0, .int .i64 0, .int .i64 0, .int .i64 0, .int .i64 0, .bool false]) ?_ 3 _ rfl; (with_reducible repeat (first | refine blk_drewN ?_ _ | refine blk_drew ?_ | refine blk_alloc ?_ _)); refine blk_put (cs := #[.int .i64 cC, .int .i64 gC, .int .i64 0, .int .i64 0, .int .i64 0, .int .i64 0, .int .i64 0, .int .i64 0, .int .i64 0, .bool false]) ?_ 2 _ rfl; (with_reducible repeat (first | refine blk_drewN ?_ _ | refine blk_drew ?_ | refine blk_alloc ?_ _)); refine blk_put (cs := #[.int .i64 cC, .int .i64 0, .int .i64 0, .int .i64 0, .int .i64 0, .int .i64 0, .int .i64 0, .int .i64 0, .int .i64 0, .bool false]) ?_ 1 _ rfl; (with_reducible repeat (first | refine blk_drewN ?_ _ | refine blk_drew ?_ | refine blk_alloc ?_ _)); refine blk_put (cs := #[.int .i64 0, .int .i64 0, .int .i64 0, .int .i64 0, .int .i64 0, .int .i64 0, .int .i64 0, .int .i64 0, .int .i64 0, .bool false]) ?_ 0 _ rfl; (with_reducible repeat (first | refine blk_drewN ?_ _ | refine blk_drew ?_ | refine blk_alloc ?_ _)); refine blk_far ?_ CA.out _; (with_reducible repeat (first | refine blk_drewN ?_ _ | refine blk_drew ?_ | refine blk_alloc ?_ _)); exact cA.out) Try.underlying23 rfl Z6e (.tmp .nil)))) rfl ?_
             exact ⟨_, Z6p, by (with_reducible repeat (first | apply Kd.R_alloc | apply Kd.R_drewN | apply Kd.R_drew)); exact Kd.R_mono (Kd.R_far (p := ⟨hA, 9, none⟩) (Kd.R_far (p := ⟨hA, 8, none⟩) (Kd.R_far (p := ⟨hA, 7, none⟩) (Kd.R_far (p := ⟨hA, 6, none⟩) (Kd.R_far (p := ⟨hA, 5, none⟩) (Kd.R_far (p := ⟨hA, 4, none⟩) (Kd.R_far (p := ⟨hA, 3, none⟩) (Kd.R_far (p := ⟨hA, 2, none⟩) (Kd.R_far (p := ⟨hA, 1, none⟩) (Kd.R_far (p := ⟨hA, 0, none⟩) (Kd.R_far (p := ⟨rA, 0, none⟩) (Kd.R_types (Kd.R_types fA.out iA.out (by decide)) cA.out (by decide)) (fun _ hk => hk.1.2) (.slice RA AA.length SA)) (fun _ hk => hk.2) (.int .i64 cC)) (fun _ hk => hk.2) (.int .i64 gC)) (fun _ hk => hk.2) (.int .i64 kC)) (fun _ hk => hk.2) (.int .i64 tC)) (fun _ hk => hk.2) (.int .i64 bD)) (fun _ hk => hk.2) (.int .i64 fD)) (fun _ hk => hk.2) (.int .i64 xD)) (fun _ hk => hk.2) (.int .i64 zG)) (fun _ hk => hk.2) (.int .i64 xH)) (fun _ hk => hk.2) (.bool LH)) (fun _ hk => trivial), Z6f⟩
            ·rw [if_neg c175] at H
             have xG : (zA == 0) = false := beq_eq_false_iff_ne.mpr c175
             have yG : (zA != 0) = true := bne_iff_ne.mpr c175
             replace H := Option.bind_eq_some_iff.mp H
             obtain ⟨⟨dC, hC, lC, uC, cD, gD, yD, AG, yH, MH⟩, A1900, H⟩ := H
             (try dsimp only at H)
             have A190 := Z6d A1900
             clear A1900
             simp only [Option.some.injEq, Prod.mk.injEq] at H
             obtain ⟨rfl, rfl, rfl, rfl, rfl, rfl, rfl, rfl, rfl, rfl, rfl, rfl⟩ := H
             try go_wp2
             have hB := Z6d (Kd.R_drew fA.out)
             have BB := Z6d (blk_drew jA.out)
             have iB := Z6d (blk_drew bA.out)
             have jB := Z6d (blk_drew iA.out)
             have uB := Z6d (blk_drew cA.out)
             have FB := Z6d (blk_drew mA.out)
             have wB := Z6d (blk_drew lA.out)
             have CB := Z6d (below_drew1 HB.out)
             clear fA jA bA iA cA mA lA HB
             have fA := hB
             have jA := BB
             have bA := iB
             have iA := jB
             have cA := uB
             have mA := FB
             have lA := wB
             have HB := CB
             clear hB BB iB jB uB FB wB CB
             refine start_ (n := 6) (S := fun w' => w'.cell? ⟨IA, 0, none⟩ = some (.slice RA AA.length SA) ∧ w'.cell? ⟨gA, 0, none⟩ = some (.int .i64 nA) ∧ w'.cell? ⟨gA, 1, none⟩ = some (.int .i64 oA) ∧ w'.cell? ⟨gA, 2, none⟩ = some (.int .i64 pA) ∧ w'.cell? ⟨gA, 3, none⟩ = some (.int .i64 kA) ∧ w'.cell? ⟨gA, 4, none⟩ = some (.int .i64 uA) ∧ w'.cell? ⟨gA, 5, none⟩ = some (.int .i64 wA) ∧ w'.cell? ⟨gA, 6, none⟩ = some (.int .i64 yA) ∧ w'.cell? ⟨gA, 7, none⟩ = some (.int .i64 qA) ∧ w'.cell? ⟨gA, 8, none⟩ = some (.int .i64 xA) ∧ w'.cell? ⟨gA, 9, none⟩ = some (.bool vA)) (ds := []) #[F,F,F,F,F,F] Z6e rfl rfl ⟨(blk_cell lA.out 0).trans rfl, (blk_cell bA.out 0).trans rfl, (blk_cell bA.out 1).trans rfl, (blk_cell bA.out 2).trans rfl, (blk_cell bA.out 3).trans rfl, (blk_cell bA.out 4).trans rfl, (blk_cell bA.out 5).trans rfl, (blk_cell bA.out 6).trans rfl, (blk_cell bA.out 7).trans rfl, (blk_cell bA.out 8).trans rfl, (blk_cell bA.out 9).trans rfl⟩ (fun hHeld => ?_)
             generalize wc.drew = OQ at fA jA bA iA cA mA lA HB hHeld ⊢
             refine take_ (i := 0) (N := some 51) (v := ?_) (a' := ?_) #[T,F,F,F,F,F] rfl rfl Z6e (fun _ _ _ h => h) (Or.inl ⟨by rfl, ?_⟩) hHeld ?_ ?_
             rotate_left
             ·rintro w' ⟨s0, s1, s2, s3, s4, s5, s6, s7, s8, s9, kH⟩
              go_simp
              with_reducible rfl
             rotate_left
             ·simp only [Act.put, List.setIfInBounds_toArray, List.set_cons_zero, List.set_cons_succ, i64_w, i32_w]
              rfl
             refine take_ (i := 1) (N := some 52) (v := ?_) (a' := ?_) #[T,T,F,F,F,F] rfl rfl Z6e (fun _ _ _ h => h) (Or.inl ⟨by rfl, ?_⟩) hHeld ?_ ?_
             rotate_left
             ·rintro w' ⟨s0, s1, s2, s3, s4, s5, s6, s7, s8, s9, kH⟩
              go_simp
              with_reducible rfl
             rotate_left
             ·simp only [Act.put, List.setIfInBounds_toArray, List.set_cons_zero, List.set_cons_succ, i64_w, i32_w]
              rfl
             refine one_ (i := 2) (N := some 53) #[T,T,T,F,F,F] rfl rfl Z6e (by decide) (fun K hK => ?_)
             refine goes_ Try.func60 Z6e rfl #[.agg #[.int .i64 nA, .int .i64 oA, .int .i64 pA, .int .i64 kA, .int .i64 uA, .int .i64 wA, .int .i64 yA, .int .i64 qA, .int .i64 xA, .bool vA], .int .i64 1] (by rfl) rfl rfl Z6k ?_
             with_reducible refine (spec_l05End.calls nA oA pA kA uA wA yA qA xA vA 1 dC hC lC uC cD gD yD AG yH MH _ A190.out).mono ?_
             rintro e PQ ⟨rfl, hb⟩
             refine ⟨_, rfl, ?_⟩
             have hB := Z6d (Kd.R_below Z6m hb)
             have iB := Z6d (blk_below (g := gA) (o := .cells #[.int .i64 nA, .int .i64 oA, .int .i64 pA, .int .i64 kA, .int .i64 uA, .int .i64 wA, .int .i64 yA, .int .i64 qA, .int .i64 xA, .bool vA] 23 (0, 0)) Z6h hb)
             have jB := Z6d (blk_below (g := rA) (o := .cells #[.slice none 0 0] 29 (0, 0)) Z6g hb)
             have uB := Z6d (blk_below (g := hA) (o := .cells #[.int .i64 0, .int .i64 0, .int .i64 0, .int .i64 0, .int .i64 0, .int .i64 0, .int .i64 0, .int .i64 0, .int .i64 0, .bool false] 23 (0, 0)) Z6i hb)
             have wB := Z6d (blk_below (g := IA) (o := .cells #[.slice RA AA.length SA] 29 (0, 0)) Z6l hb)
             have CB := Z6d (below_step Z6f hb)
             clear fA jA bA iA cA mA lA HB
             have fA := hB
             have bA := iB
             have iA := jB
             have cA := uB
             have lA := wB
             have HB := CB
             clear hB iB jB uB wB CB
             (try clear hb)
             (try clear hb2)
             (try clear hk)
             (try clear hi)
             refine hK.out _ _ ⟨(blk_cell lA.out 0).trans rfl, (blk_cell bA.out 0).trans rfl, (blk_cell bA.out 1).trans rfl, (blk_cell bA.out 2).trans rfl, (blk_cell bA.out 3).trans rfl, (blk_cell bA.out 4).trans rfl, (blk_cell bA.out 5).trans rfl, (blk_cell bA.out 6).trans rfl, (blk_cell bA.out 7).trans rfl, (blk_cell bA.out 8).trans rfl, (blk_cell bA.out 9).trans rfl⟩ (fun hHeld => ?_)
             clear hK K
             refine norm_ (a' := ?_) ?_ ?_
             rotate_left
             ·show Act.put _ (some 53) _ = _
              simp only [Act.put, List.setIfInBounds_toArray, List.set_cons_zero, List.set_cons_succ, i64_w, i32_w]
              rfl
             refine one_ (i := 3) (N := none) #[T,T,T,T,F,F] rfl rfl Z6e (by decide) (fun K hK => ?_)
             have bQ := Z6b iA.out 0 (.slice none 0 0)
             have cN := Z6c iA.out 0
             have GI := kB.out
             have HI := dA.out
             have II := CA.out
             have JI := yB.out
             have KI := EA.out
             have LI := lB.out
             have MI := sA.out
             have NI := xB.out
             have OI := oB.out
             have PI := fB.out
             refine skip_ (w1 := ?_) (by rfl) rfl ?_ ?_
             rotate_left
             ·go_simp
              rfl
             refine hK.out _ _ ⟨((Z6a EA.out).trans (hHeld.1)), ((Z6a dA.out).trans (hHeld.2.1)), ((Z6a dA.out).trans (hHeld.2.2.1)), ((Z6a dA.out).trans (hHeld.2.2.2.1)), ((Z6a dA.out).trans (hHeld.2.2.2.2.1)), ((Z6a dA.out).trans (hHeld.2.2.2.2.2.1)), ((Z6a dA.out).trans (hHeld.2.2.2.2.2.2.1)), ((Z6a dA.out).trans (hHeld.2.2.2.2.2.2.2.1)), ((Z6a dA.out).trans (hHeld.2.2.2.2.2.2.2.2.1)), ((Z6a dA.out).trans (hHeld.2.2.2.2.2.2.2.2.2.1)), ((Z6a dA.out).trans (hHeld.2.2.2.2.2.2.2.2.2.2))⟩ (fun hHeld => ?_)
             clear hK K
             refine one_ (i := 4) (N := none) #[T,T,T,T,T,F] rfl rfl Z6e (by decide) (fun K hK => ?_)
             have cQ := Z6b cA.out 0 (.int .i64 0)
             have dN := Z6c cA.out 0
             have QI := mB.out
             have RI := aA.out
             have SI := zB.out
             have TI := eA.out
             have UI := nB.out
             have VI := tA.out
             have WI := pB.out
             have XI := gB.out
             have dQ := Z6b cA.out 1 (.int .i64 0)
             have eN := Z6c cA.out 1
             have eQ := Z6b cA.out 2 (.int .i64 0)
             have fN := Z6c cA.out 2
             have fQ := Z6b cA.out 3 (.int .i64 0)
             have gN := Z6c cA.out 3
             have gQ := Z6b cA.out 4 (.int .i64 0)
             have hN := Z6c cA.out 4
             have hQ := Z6b cA.out 5 (.int .i64 0)
             have iN := Z6c cA.out 5
             have iQ := Z6b cA.out 6 (.int .i64 0)
             have jN := Z6c cA.out 6
             have jQ := Z6b cA.out 7 (.int .i64 0)
             have kN := Z6c cA.out 7
             have kQ := Z6b cA.out 8 (.int .i64 0)
             have lN := Z6c cA.out 8
             have lQ := Z6b cA.out 9 (.bool false)
             have mN := Z6c cA.out 9
             refine skip_ (w1 := ?_) (by rfl) rfl ?_ ?_
             rotate_left
             ·go_simp
              rfl
             refine hK.out _ _ ⟨((Z6a eA.out).trans (((Z6a eA.out).trans (((Z6a eA.out).trans (((Z6a eA.out).trans (((Z6a eA.out).trans (((Z6a eA.out).trans (((Z6a eA.out).trans (((Z6a eA.out).trans (((Z6a eA.out).trans (((Z6a eA.out).trans (hHeld.1)))))))))))))))))))), ((Z6a aA.out).trans (((Z6a aA.out).trans (((Z6a aA.out).trans (((Z6a aA.out).trans (((Z6a aA.out).trans (((Z6a aA.out).trans (((Z6a aA.out).trans (((Z6a aA.out).trans (((Z6a aA.out).trans (((Z6a aA.out).trans (hHeld.2.1)))))))))))))))))))), ((Z6a aA.out).trans (((Z6a aA.out).trans (((Z6a aA.out).trans (((Z6a aA.out).trans (((Z6a aA.out).trans (((Z6a aA.out).trans (((Z6a aA.out).trans (((Z6a aA.out).trans (((Z6a aA.out).trans (((Z6a aA.out).trans (hHeld.2.2.1)))))))))))))))))))), ((Z6a aA.out).trans (((Z6a aA.out).trans (((Z6a aA.out).trans (((Z6a aA.out).trans (((Z6a aA.out).trans (((Z6a aA.out).trans (((Z6a aA.out).trans (((Z6a aA.out).trans (((Z6a aA.out).trans (((Z6a aA.out).trans (hHeld.2.2.2.1)))))))))))))))))))), ((Z6a aA.out).trans (((Z6a aA.out).trans (((Z6a aA.out).trans (((Z6a aA.out).trans (((Z6a aA.out).trans (((Z6a aA.out).trans (((Z6a aA.out).trans (((Z6a aA.out).trans (((Z6a aA.out).trans (((Z6a aA.out).trans (hHeld.2.2.2.2.1)))))))))))))))))))), ((Z6a aA.out).trans (((Z6a aA.out).trans (((Z6a aA.out).trans (((Z6a aA.out).trans (((Z6a aA.out).trans (((Z6a aA.out).trans (((Z6a aA.out).trans (((Z6a aA.out).trans (((Z6a aA.out).trans (((Z6a aA.out).trans (hHeld.2.2.2.2.2.1)))))))))))))))))))), ((Z6a aA.out).trans (((Z6a aA.out).trans (((Z6a aA.out).trans (((Z6a aA.out).trans (((Z6a aA.out).trans (((Z6a aA.out).trans (((Z6a aA.out).trans (((Z6a aA.out).trans (((Z6a aA.out).trans (((Z6a aA.out).trans (hHeld.2.2.2.2.2.2.1)))))))))))))))))))), ((Z6a aA.out).trans (((Z6a aA.out).trans (((Z6a aA.out).trans (((Z6a aA.out).trans (((Z6a aA.out).trans (((Z6a aA.out).trans (((Z6a aA.out).trans (((Z6a aA.out).trans (((Z6a aA.out).trans (((Z6a aA.out).trans (hHeld.2.2.2.2.2.2.2.1)))))))))))))))))))), ((Z6a aA.out).trans (((Z6a aA.out).trans (((Z6a aA.out).trans (((Z6a aA.out).trans (((Z6a aA.out).trans (((Z6a aA.out).trans (((Z6a aA.out).trans (((Z6a aA.out).trans (((Z6a aA.out).trans (((Z6a aA.out).trans (hHeld.2.2.2.2.2.2.2.2.1)))))))))))))))))))), ((Z6a aA.out).trans (((Z6a aA.out).trans (((Z6a aA.out).trans (((Z6a aA.out).trans (((Z6a aA.out).trans (((Z6a aA.out).trans (((Z6a aA.out).trans (((Z6a aA.out).trans (((Z6a aA.out).trans (((Z6a aA.out).trans (hHeld.2.2.2.2.2.2.2.2.2.1)))))))))))))))))))), ((Z6a aA.out).trans (((Z6a aA.out).trans (((Z6a aA.out).trans (((Z6a aA.out).trans (((Z6a aA.out).trans (((Z6a aA.out).trans (((Z6a aA.out).trans (((Z6a aA.out).trans (((Z6a aA.out).trans (((Z6a aA.out).trans (hHeld.2.2.2.2.2.2.2.2.2.2))))))))))))))))))))⟩ (fun hHeld => ?_)
             clear hK K
             refine pure_ (i := 5) (N := some 8) (v := ?_) (a' := ?_) #[T,T,T,T,T,T] rfl rfl Z6e (fun _ _ _ h => h) (Or.inl ⟨by rfl, ?_⟩) ?_ ?_
             rotate_left
             ·intro w'
              go_simp
              with_reducible rfl
             rotate_left
             ·simp only [Act.put, List.setIfInBounds_toArray, List.set_cons_zero, List.set_cons_succ, i64_w, i32_w]
              rfl
             refine done_ Z6e ?_
             try go_wp2
             refine bodyPost_ret (results_list (rs := [.cell 6 29, .cell 7 23, .tmp 8]) rfl (by simp) (.cell rA 29 #[.slice RA AA.length SA] (0, 0) _ rfl Z6o Try.underlying29 rfl Z6e (.cell hA 23 #[.int .i64 dC, .int .i64 hC, .int .i64 lC, .int .i64 uC, .int .i64 cD, .int .i64 gD, .int .i64 yD, .int .i64 AG, .int .i64 yH, .bool MH] (0, 0) _ rfl (by (with_reducible repeat (first | refine blk_drewN ?_ _ | refine blk_drew ?_ | refine blk_alloc ?_ _)); refine blk_put (cs := #[.int .i64 dC, .int .i64 hC, .int .i64 lC, .int .i64 uC, .int .i64 cD, .int .i64 gD, .int .i64 yD, .int .i64 AG, .int .i64 yH, .bool false]) ?_ 9 _ rfl; (with_reducible repeat (first | refine blk_drewN ?_ _ | refine blk_drew ?_ | refine blk_alloc ?_ _)); refine blk_put (cs := #[.int .i64 dC, .int .i64 hC, .int .i64 lC, .int .i64 uC, .int .i64 cD, .int .i64 gD, .int .i64 yD, .int .i64 AG, .int .i64 0, .bool false]) ?_ 8 _ rfl; (with_reducible repeat (first | refine blk_drewN ?_ _ | refine blk_drew ?_ | refine blk_alloc ?_ _)); refine blk_put (cs := #[.int .i64 dC, .int .i64 hC, .int .i64 lC, .int .i64 uC, .int .i64 cD, .int .i64 gD, .int .i64 yD, .int .i64 0, .int .i64 0, .bool false]) ?_ 7 _ rfl; (with_reducible repeat (first | refine blk_drewN ?_ _ | refine blk_drew ?_ | refine blk_alloc ?_ _)); refine blk_put (cs := #[.int .i64 dC, .int .i64 hC, .int .i64 lC, .int .i64 uC, .int .i64 cD, .int .i64 gD, .int .i64 0, .int .i64 0, .int .i64 0, .bool false]) ?_ 6 _ rfl; (with_reducible repeat (first | refine blk_drewN ?_ _ | refine blk_drew ?_ | refine blk_alloc ?_ _)); refine blk_put (cs := #[.int .i64 dC, .int .i64 hC, .int .i64 lC, .int .i64 uC, .int .i64 cD, .int .i64 0, .int .i64 0, .int .i64 0, .int .i64 0, .bool false]) ?_ 5 _ rfl; (with_reducible repeat (first | refine blk_drewN ?_ _ | refine blk_drew ?_ | refine blk_alloc ?_ _)); refine blk_put (cs := #[.int .i64 dC, .int .i64 hC, .int .i64 lC, .int .i64 uC, .int .i64 0, .int .i64 0, .int .i64 0, .int .i64 0, .int .i64 0, .bool false]) ?_ 4 _ rfl; (with_reducible repeat (first | refine blk_drewN ?_ _ | refine blk_drew ?_ | refine blk_alloc ?_ _)); refine blk_put (cs := #[.int .i64 dC, .int .i64 hC, .int .i64 lC, .int .i64 0, .int .i64 0, .int .i64 0, .int .i64 0, .int .i64 0, .int .i64 0, .bool false]) ?_ 3 _ rfl; (with_reducible repeat (first | refine blk_drewN ?_ _ | refine blk_drew ?_ | refine blk_alloc ?_ _)); refine blk_put (cs := #[.int .i64 dC, .int .i64 hC, .int .i64 0, .int .i64 0, .int .i64 0, .int .i64 0, .int .i64 0, .int .i64 0, .int .i64 0, .bool false]) ?_ 2 _ rfl; (with_reducible repeat (first | refine blk_drewN ?_ _ | refine blk_drew ?_ | refine blk_alloc ?_ _)); refine blk_put (cs := #[.int .i64 dC, .int .i64 0, .int .i64 0, .int .i64 0, .int .i64 0, .int .i64 0, .int .i64 0, .int .i64 0, .int .i64 0, .bool false]) ?_ 1 _ rfl; (with_reducible repeat (first | refine blk_drewN ?_ _ | refine blk_drew ?_ | refine blk_alloc ?_ _)); refine blk_put (cs := #[.int .i64 0, .int .i64 0, .int .i64 0, .int .i64 0, .int .i64 0, .int .i64 0, .int .i64 0, .int .i64 0, .int .i64 0, .bool false]) ?_ 0 _ rfl; (with_reducible repeat (first | refine blk_drewN ?_ _ | refine blk_drew ?_ | refine blk_alloc ?_ _)); refine blk_far ?_ CA.out _; (with_reducible repeat (first | refine blk_drewN ?_ _ | refine blk_drew ?_ | refine blk_alloc ?_ _)); exact cA.out) Try.underlying23 rfl Z6e (.tmp .nil)))) rfl ?_
             exact ⟨_, Z6p, by (with_reducible repeat (first | apply Kd.R_alloc | apply Kd.R_drewN | apply Kd.R_drew)); exact Kd.R_mono (Kd.R_far (p := ⟨hA, 9, none⟩) (Kd.R_far (p := ⟨hA, 8, none⟩) (Kd.R_far (p := ⟨hA, 7, none⟩) (Kd.R_far (p := ⟨hA, 6, none⟩) (Kd.R_far (p := ⟨hA, 5, none⟩) (Kd.R_far (p := ⟨hA, 4, none⟩) (Kd.R_far (p := ⟨hA, 3, none⟩) (Kd.R_far (p := ⟨hA, 2, none⟩) (Kd.R_far (p := ⟨hA, 1, none⟩) (Kd.R_far (p := ⟨hA, 0, none⟩) (Kd.R_far (p := ⟨rA, 0, none⟩) (Kd.R_types (Kd.R_types fA.out iA.out (by decide)) cA.out (by decide)) (fun _ hk => hk.1.2) (.slice RA AA.length SA)) (fun _ hk => hk.2) (.int .i64 dC)) (fun _ hk => hk.2) (.int .i64 hC)) (fun _ hk => hk.2) (.int .i64 lC)) (fun _ hk => hk.2) (.int .i64 uC)) (fun _ hk => hk.2) (.int .i64 cD)) (fun _ hk => hk.2) (.int .i64 gD)) (fun _ hk => hk.2) (.int .i64 yD)) (fun _ hk => hk.2) (.int .i64 AG)) (fun _ hk => hk.2) (.int .i64 yH)) (fun _ hk => hk.2) (.bool MH)) (fun _ hk => trivial), Z6f⟩
    case rest =>
     clear HC54
     (try clear c1); (try clear p2); (try clear c5); (try clear c6); (try clear p6); (try clear c16); (try clear c17); (try clear c59); (try clear c60); (try clear p64); (try clear c168); (try clear c169); (try clear c170); (try clear c171); (try clear c172); (try clear c173); (try clear c175); (try clear xG); (try clear yG); (try clear dG); (try clear eG); (try clear fG); (try clear gG); (try clear hG); (try clear iG); (try clear jG); (try clear kG); (try clear lG); (try clear mG); (try clear CC); (try clear DC); (try clear EC); (try clear FC); (try clear GC); (try clear HC); (try clear IC); (try clear JC); (try clear KC); (try clear LC); (try clear MC); (try clear NC); (try clear OC); (try clear PC); (try clear QC); (try clear RC); (try clear SC); (try clear TC); (try clear UC); (try clear VC); (try clear WC); (try clear XC); (try clear YC); (try clear ZC); (try clear aD); (try clear nG); (try clear oG); (try clear pG); (try clear qG); (try clear rG); (try clear sG); (try clear tG); (try clear uG); (try clear vG); (try clear wG); (try clear jD); (try clear kD); (try clear lD); (try clear mD); (try clear nD); (try clear oD); (try clear pD); (try clear qD); (try clear rD); (try clear sD); (try clear tD)
     obtain ⟨kq, FA, MA, PA, dB, DB, PB, LB, GB, EB, vB, eB, QA, NA, GA, BA, HA, HJ53, fA, jA, bA, iA, cA, mA, lA, HB⟩ := hcut
     cases kq with
     | zero => exact absurd HA.out (by simp [spec_LiStep.j2])
     | succ kj53 =>
      have H := HA.out
      clear HA
      simp only [spec_LiStep.j2] at H
      simp only [Option.some.injEq, Prod.mk.injEq] at H
      obtain ⟨rfl, rfl, rfl, rfl, rfl, rfl, rfl, rfl, rfl, rfl, rfl, rfl⟩ := H
      try go_wp2
      have hB := Z6d (Kd.R_drew fA.out)
      have BB := Z6d (blk_drew jA.out)
      have iB := Z6d (blk_drew bA.out)
      have jB := Z6d (blk_drew iA.out)
      have uB := Z6d (blk_drew cA.out)
      have FB := Z6d (blk_drew mA.out)
      have wB := Z6d (blk_drew lA.out)
      have CB := Z6d (below_drew1 HB.out)
      clear fA jA bA iA cA mA lA HB
      have fA := hB
      have jA := BB
      have bA := iB
      have iA := jB
      have cA := uB
      have mA := FB
      have lA := wB
      have HB := CB
      clear hB BB iB jB uB FB wB CB
      refine start_ (n := 5) (S := fun w' => w'.cell? ⟨IA, 0, none⟩ = some (.slice RA AA.length SA) ∧ w'.cell? ⟨gA, 0, none⟩ = some (.int .i64 nA) ∧ w'.cell? ⟨gA, 1, none⟩ = some (.int .i64 oA) ∧ w'.cell? ⟨gA, 2, none⟩ = some (.int .i64 pA) ∧ w'.cell? ⟨gA, 3, none⟩ = some (.int .i64 FA) ∧ w'.cell? ⟨gA, 4, none⟩ = some (.int .i64 MA) ∧ w'.cell? ⟨gA, 5, none⟩ = some (.int .i64 PA) ∧ w'.cell? ⟨gA, 6, none⟩ = some (.int .i64 dB) ∧ w'.cell? ⟨gA, 7, none⟩ = some (.int .i64 qA) ∧ w'.cell? ⟨gA, 8, none⟩ = some (.int .i64 DB) ∧ w'.cell? ⟨gA, 9, none⟩ = some (.bool vA)) (ds := []) #[F,F,F,F,F] Z6e rfl rfl ⟨(blk_cell lA.out 0).trans rfl, (blk_cell bA.out 0).trans rfl, (blk_cell bA.out 1).trans rfl, (blk_cell bA.out 2).trans rfl, (blk_cell bA.out 3).trans rfl, (blk_cell bA.out 4).trans rfl, (blk_cell bA.out 5).trans rfl, (blk_cell bA.out 6).trans rfl, (blk_cell bA.out 7).trans rfl, (blk_cell bA.out 8).trans rfl, (blk_cell bA.out 9).trans rfl⟩ (fun hHeld => ?_)
      generalize wc.drew = QQ at fA jA bA iA cA mA lA HB hHeld ⊢
      refine take_ (i := 0) (N := some 108) (v := ?_) (a' := ?_) #[T,F,F,F,F] rfl rfl Z6e (fun _ _ _ h => h) (Or.inl ⟨by rfl, ?_⟩) hHeld ?_ ?_
      rotate_left
      ·rintro w' ⟨s0, s1, s2, s3, s4, s5, s6, s7, s8, s9, kH⟩
       go_simp
       with_reducible rfl
      rotate_left
      ·simp only [Act.put, List.setIfInBounds_toArray, List.set_cons_zero, List.set_cons_succ, i64_w, i32_w]
       rfl
      refine take_ (i := 1) (N := some 109) (v := ?_) (a' := ?_) #[T,T,F,F,F] rfl rfl Z6e (fun _ _ _ h => h) (Or.inl ⟨by rfl, ?_⟩) hHeld ?_ ?_
      rotate_left
      ·rintro w' ⟨s0, s1, s2, s3, s4, s5, s6, s7, s8, s9, kH⟩
       go_simp
       with_reducible rfl
      rotate_left
      ·simp only [Act.put, List.setIfInBounds_toArray, List.set_cons_zero, List.set_cons_succ, i64_w, i32_w]
       rfl
      refine one_ (i := 2) (N := none) #[T,T,T,F,F] rfl rfl Z6e (by decide) (fun K hK => ?_)
      have mQ := Z6b iA.out 0 (.slice none 0 0)
      have nN := Z6c iA.out 0
      have YI := kB.out
      have ZI := dA.out
      have aJ := CA.out
      have bJ := yB.out
      have cJ := EA.out
      have dJ := lB.out
      have eJ := sA.out
      have fJ := xB.out
      have gJ := oB.out
      have hJ := fB.out
      refine skip_ (w1 := ?_) (by rfl) rfl ?_ ?_
      rotate_left
      ·go_simp
       rfl
      refine hK.out _ _ ⟨((Z6a EA.out).trans (hHeld.1)), ((Z6a dA.out).trans (hHeld.2.1)), ((Z6a dA.out).trans (hHeld.2.2.1)), ((Z6a dA.out).trans (hHeld.2.2.2.1)), ((Z6a dA.out).trans (hHeld.2.2.2.2.1)), ((Z6a dA.out).trans (hHeld.2.2.2.2.2.1)), ((Z6a dA.out).trans (hHeld.2.2.2.2.2.2.1)), ((Z6a dA.out).trans (hHeld.2.2.2.2.2.2.2.1)), ((Z6a dA.out).trans (hHeld.2.2.2.2.2.2.2.2.1)), ((Z6a dA.out).trans (hHeld.2.2.2.2.2.2.2.2.2.1)), ((Z6a dA.out).trans (hHeld.2.2.2.2.2.2.2.2.2.2))⟩ (fun hHeld => ?_)
      clear hK K
      refine one_ (i := 3) (N := none) #[T,T,T,T,F] rfl rfl Z6e (by decide) (fun K hK => ?_)
      have nQ := Z6b cA.out 0 (.int .i64 PB)
      have oN := Z6c cA.out 0
      have iJ := mB.out
      have jJ := aA.out
      have kJ := zB.out
      have lJ := eA.out
      have mJ := nB.out
      have nJ := tA.out
      have oJ := pB.out
      have pJ := gB.out
      have oQ := Z6b cA.out 1 (.int .i64 LB)
      have pN := Z6c cA.out 1
      have pQ := Z6b cA.out 2 (.int .i64 GB)
      have qN := Z6c cA.out 2
      have qQ := Z6b cA.out 3 (.int .i64 EB)
      have rN := Z6c cA.out 3
      have rQ := Z6b cA.out 4 (.int .i64 vB)
      have sN := Z6c cA.out 4
      have sQ := Z6b cA.out 5 (.int .i64 eB)
      have tN := Z6c cA.out 5
      have tQ := Z6b cA.out 6 (.int .i64 QA)
      have uN := Z6c cA.out 6
      have uQ := Z6b cA.out 7 (.int .i64 NA)
      have vN := Z6c cA.out 7
      have vQ := Z6b cA.out 8 (.int .i64 GA)
      have wN := Z6c cA.out 8
      have wQ := Z6b cA.out 9 (.bool BA)
      have xN := Z6c cA.out 9
      refine skip_ (w1 := ?_) (by rfl) rfl ?_ ?_
      rotate_left
      ·go_simp
       rfl
      refine hK.out _ _ ⟨((Z6a eA.out).trans (((Z6a eA.out).trans (((Z6a eA.out).trans (((Z6a eA.out).trans (((Z6a eA.out).trans (((Z6a eA.out).trans (((Z6a eA.out).trans (((Z6a eA.out).trans (((Z6a eA.out).trans (((Z6a eA.out).trans (hHeld.1)))))))))))))))))))), ((Z6a aA.out).trans (((Z6a aA.out).trans (((Z6a aA.out).trans (((Z6a aA.out).trans (((Z6a aA.out).trans (((Z6a aA.out).trans (((Z6a aA.out).trans (((Z6a aA.out).trans (((Z6a aA.out).trans (((Z6a aA.out).trans (hHeld.2.1)))))))))))))))))))), ((Z6a aA.out).trans (((Z6a aA.out).trans (((Z6a aA.out).trans (((Z6a aA.out).trans (((Z6a aA.out).trans (((Z6a aA.out).trans (((Z6a aA.out).trans (((Z6a aA.out).trans (((Z6a aA.out).trans (((Z6a aA.out).trans (hHeld.2.2.1)))))))))))))))))))), ((Z6a aA.out).trans (((Z6a aA.out).trans (((Z6a aA.out).trans (((Z6a aA.out).trans (((Z6a aA.out).trans (((Z6a aA.out).trans (((Z6a aA.out).trans (((Z6a aA.out).trans (((Z6a aA.out).trans (((Z6a aA.out).trans (hHeld.2.2.2.1)))))))))))))))))))), ((Z6a aA.out).trans (((Z6a aA.out).trans (((Z6a aA.out).trans (((Z6a aA.out).trans (((Z6a aA.out).trans (((Z6a aA.out).trans (((Z6a aA.out).trans (((Z6a aA.out).trans (((Z6a aA.out).trans (((Z6a aA.out).trans (hHeld.2.2.2.2.1)))))))))))))))))))), ((Z6a aA.out).trans (((Z6a aA.out).trans (((Z6a aA.out).trans (((Z6a aA.out).trans (((Z6a aA.out).trans (((Z6a aA.out).trans (((Z6a aA.out).trans (((Z6a aA.out).trans (((Z6a aA.out).trans (((Z6a aA.out).trans (hHeld.2.2.2.2.2.1)))))))))))))))))))), ((Z6a aA.out).trans (((Z6a aA.out).trans (((Z6a aA.out).trans (((Z6a aA.out).trans (((Z6a aA.out).trans (((Z6a aA.out).trans (((Z6a aA.out).trans (((Z6a aA.out).trans (((Z6a aA.out).trans (((Z6a aA.out).trans (hHeld.2.2.2.2.2.2.1)))))))))))))))))))), ((Z6a aA.out).trans (((Z6a aA.out).trans (((Z6a aA.out).trans (((Z6a aA.out).trans (((Z6a aA.out).trans (((Z6a aA.out).trans (((Z6a aA.out).trans (((Z6a aA.out).trans (((Z6a aA.out).trans (((Z6a aA.out).trans (hHeld.2.2.2.2.2.2.2.1)))))))))))))))))))), ((Z6a aA.out).trans (((Z6a aA.out).trans (((Z6a aA.out).trans (((Z6a aA.out).trans (((Z6a aA.out).trans (((Z6a aA.out).trans (((Z6a aA.out).trans (((Z6a aA.out).trans (((Z6a aA.out).trans (((Z6a aA.out).trans (hHeld.2.2.2.2.2.2.2.2.1)))))))))))))))))))), ((Z6a aA.out).trans (((Z6a aA.out).trans (((Z6a aA.out).trans (((Z6a aA.out).trans (((Z6a aA.out).trans (((Z6a aA.out).trans (((Z6a aA.out).trans (((Z6a aA.out).trans (((Z6a aA.out).trans (((Z6a aA.out).trans (hHeld.2.2.2.2.2.2.2.2.2.1)))))))))))))))))))), ((Z6a aA.out).trans (((Z6a aA.out).trans (((Z6a aA.out).trans (((Z6a aA.out).trans (((Z6a aA.out).trans (((Z6a aA.out).trans (((Z6a aA.out).trans (((Z6a aA.out).trans (((Z6a aA.out).trans (((Z6a aA.out).trans (hHeld.2.2.2.2.2.2.2.2.2.2))))))))))))))))))))⟩ (fun hHeld => ?_)
      clear hK K
      refine pure_ (i := 4) (N := some 8) (v := ?_) (a' := ?_) #[T,T,T,T,T] rfl rfl Z6e (fun _ _ _ h => h) (Or.inl ⟨by rfl, ?_⟩) ?_ ?_
      rotate_left
      ·intro w'
       go_simp
       with_reducible rfl
      rotate_left
      ·simp only [Act.put, List.setIfInBounds_toArray, List.set_cons_zero, List.set_cons_succ, i64_w, i32_w]
       rfl
      refine done_ Z6e ?_
      try go_wp2
      refine bodyPost_ret (results_list (rs := [.cell 6 29, .cell 7 23, .tmp 8]) rfl (by simp) (.cell rA 29 #[.slice RA AA.length SA] (0, 0) _ rfl Z6o Try.underlying29 rfl Z6e (.cell hA 23 #[.int .i64 nA, .int .i64 oA, .int .i64 pA, .int .i64 FA, .int .i64 MA, .int .i64 PA, .int .i64 dB, .int .i64 qA, .int .i64 DB, .bool vA] (0, 0) _ rfl (by (with_reducible repeat (first | refine blk_drewN ?_ _ | refine blk_drew ?_ | refine blk_alloc ?_ _)); refine blk_put (cs := #[.int .i64 nA, .int .i64 oA, .int .i64 pA, .int .i64 FA, .int .i64 MA, .int .i64 PA, .int .i64 dB, .int .i64 qA, .int .i64 DB, .bool BA]) ?_ 9 _ rfl; (with_reducible repeat (first | refine blk_drewN ?_ _ | refine blk_drew ?_ | refine blk_alloc ?_ _)); refine blk_put (cs := #[.int .i64 nA, .int .i64 oA, .int .i64 pA, .int .i64 FA, .int .i64 MA, .int .i64 PA, .int .i64 dB, .int .i64 qA, .int .i64 GA, .bool BA]) ?_ 8 _ rfl; (with_reducible repeat (first | refine blk_drewN ?_ _ | refine blk_drew ?_ | refine blk_alloc ?_ _)); refine blk_put (cs := #[.int .i64 nA, .int .i64 oA, .int .i64 pA, .int .i64 FA, .int .i64 MA, .int .i64 PA, .int .i64 dB, .int .i64 NA, .int .i64 GA, .bool BA]) ?_ 7 _ rfl; (with_reducible repeat (first | refine blk_drewN ?_ _ | refine blk_drew ?_ | refine blk_alloc ?_ _)); refine blk_put (cs := #[.int .i64 nA, .int .i64 oA, .int .i64 pA, .int .i64 FA, .int .i64 MA, .int .i64 PA, .int .i64 QA, .int .i64 NA, .int .i64 GA, .bool BA]) ?_ 6 _ rfl; (with_reducible repeat (first | refine blk_drewN ?_ _ | refine blk_drew ?_ | refine blk_alloc ?_ _)); refine blk_put (cs := #[.int .i64 nA, .int .i64 oA, .int .i64 pA, .int .i64 FA, .int .i64 MA, .int .i64 eB, .int .i64 QA, .int .i64 NA, .int .i64 GA, .bool BA]) ?_ 5 _ rfl; (with_reducible repeat (first | refine blk_drewN ?_ _ | refine blk_drew ?_ | refine blk_alloc ?_ _)); refine blk_put (cs := #[.int .i64 nA, .int .i64 oA, .int .i64 pA, .int .i64 FA, .int .i64 vB, .int .i64 eB, .int .i64 QA, .int .i64 NA, .int .i64 GA, .bool BA]) ?_ 4 _ rfl; (with_reducible repeat (first | refine blk_drewN ?_ _ | refine blk_drew ?_ | refine blk_alloc ?_ _)); refine blk_put (cs := #[.int .i64 nA, .int .i64 oA, .int .i64 pA, .int .i64 EB, .int .i64 vB, .int .i64 eB, .int .i64 QA, .int .i64 NA, .int .i64 GA, .bool BA]) ?_ 3 _ rfl; (with_reducible repeat (first | refine blk_drewN ?_ _ | refine blk_drew ?_ | refine blk_alloc ?_ _)); refine blk_put (cs := #[.int .i64 nA, .int .i64 oA, .int .i64 GB, .int .i64 EB, .int .i64 vB, .int .i64 eB, .int .i64 QA, .int .i64 NA, .int .i64 GA, .bool BA]) ?_ 2 _ rfl; (with_reducible repeat (first | refine blk_drewN ?_ _ | refine blk_drew ?_ | refine blk_alloc ?_ _)); refine blk_put (cs := #[.int .i64 nA, .int .i64 LB, .int .i64 GB, .int .i64 EB, .int .i64 vB, .int .i64 eB, .int .i64 QA, .int .i64 NA, .int .i64 GA, .bool BA]) ?_ 1 _ rfl; (with_reducible repeat (first | refine blk_drewN ?_ _ | refine blk_drew ?_ | refine blk_alloc ?_ _)); refine blk_put (cs := #[.int .i64 PB, .int .i64 LB, .int .i64 GB, .int .i64 EB, .int .i64 vB, .int .i64 eB, .int .i64 QA, .int .i64 NA, .int .i64 GA, .bool BA]) ?_ 0 _ rfl; (with_reducible repeat (first | refine blk_drewN ?_ _ | refine blk_drew ?_ | refine blk_alloc ?_ _)); refine blk_far ?_ CA.out _; (with_reducible repeat (first | refine blk_drewN ?_ _ | refine blk_drew ?_ | refine blk_alloc ?_ _)); exact cA.out) Try.underlying23 rfl Z6e (.tmp .nil)))) rfl ?_
      exact ⟨_, Z6p, by (with_reducible repeat (first | apply Kd.R_alloc | apply Kd.R_drewN | apply Kd.R_drew)); exact Kd.R_mono (Kd.R_far (p := ⟨hA, 9, none⟩) (Kd.R_far (p := ⟨hA, 8, none⟩) (Kd.R_far (p := ⟨hA, 7, none⟩) (Kd.R_far (p := ⟨hA, 6, none⟩) (Kd.R_far (p := ⟨hA, 5, none⟩) (Kd.R_far (p := ⟨hA, 4, none⟩) (Kd.R_far (p := ⟨hA, 3, none⟩) (Kd.R_far (p := ⟨hA, 2, none⟩) (Kd.R_far (p := ⟨hA, 1, none⟩) (Kd.R_far (p := ⟨hA, 0, none⟩) (Kd.R_far (p := ⟨rA, 0, none⟩) (Kd.R_types (Kd.R_types fA.out iA.out (by decide)) cA.out (by decide)) (fun _ hk => hk.1.2) (.slice RA AA.length SA)) (fun _ hk => hk.2) (.int .i64 nA)) (fun _ hk => hk.2) (.int .i64 oA)) (fun _ hk => hk.2) (.int .i64 pA)) (fun _ hk => hk.2) (.int .i64 FA)) (fun _ hk => hk.2) (.int .i64 MA)) (fun _ hk => hk.2) (.int .i64 PA)) (fun _ hk => hk.2) (.int .i64 dB)) (fun _ hk => hk.2) (.int .i64 qA)) (fun _ hk => hk.2) (.int .i64 DB)) (fun _ hk => hk.2) (.bool vA)) (fun _ hk => trivial), Z6f⟩

end Go.Proofs.Ytjikobdblohphaa.PFnExactLiStep
