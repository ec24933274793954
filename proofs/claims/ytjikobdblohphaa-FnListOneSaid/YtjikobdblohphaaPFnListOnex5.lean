-- Written by the session's own patched copy of the printer (wip/patch_print.py).
import Derived.Test.YtjikobdblohphaaPFnListOnex0
import Derived.Test.YtjikobdblohphaaPFnListOnex1
import Derived.Test.YtjikobdblohphaaPFnListOnex2
import Derived.Test.YtjikobdblohphaaPFnListOnex3
import Derived.Test.YtjikobdblohphaaPFnListOnex4
namespace Go.Proofs.Ytjikobdblohphaa.PFnListOne
open Go.RowKit Go.Proofs.YtjikobdblohphaaW.PrintWords Go.Proofs.YtjikobdblohphaaW.PrintLast Go.Proofs.YtjikobdblohphaaW.PrintMore
attribute [local go_sem] max2_int min2_int max_two min_two max_three min_three max_four min_four   -- for this text's walks alone
set_option linter.unusedVariables false
set_option linter.unusedSimpArgs false

theorem Z5c {w : World} {g : Nat} {t : TypeId} {cs : Array Value} (h : w.heap[g]? = some (.cells cs t (0, 0))) (i : Nat) (v : Value) (e : cs[i]? = some v := by rfl) : w.cell? ⟨g, i, none⟩ = some v := (blk_cell h i).trans e
theorem Z5b {w : World} {g a i j : Nat} {u : Value} (h : g ≠ a) : (w.setCell ⟨a, i, none⟩ u).cell? ⟨g, j, none⟩ = w.cell? ⟨g, j, none⟩ := cell_far (p := ⟨a, _, none⟩) h _
theorem Z5a {p : Prop} (h : p) : Aside0 p := ⟨h⟩
theorem Z5d {w : World} {g : Nat} {t : TypeId} {cs : Array Value} (h : w.heap[g]? = some (.cells cs t (0, 0))) (i : Nat) : w.frozen? ⟨g, i, none⟩ = false := blk_frozen h i
open Bool renaming true → T, false → F
theorem Z5h {p : Prop} (h : p := by repeat (first | (with_reducible first | exact HB.out | apply below_alloc | apply pw_below_drewN | apply below_drew1 | refine below_set ?_ ZD.out | refine below_set ?_ RB.out | refine below_set ?_ UE.out | refine below_set ?_ uF.out | refine below_set ?_ zF.out | refine below_set ?_ OF.out) | exact HB.out)) : p := h
theorem Z5f {p : Prop} (h : p := by (with_reducible repeat (first | refine blk_drewN ?_ _ | refine blk_drew ?_ | refine blk_alloc ?_ _)); exact kA.out) : p := h
theorem q5_2 {p : Prop} (h : p := by (with_reducible repeat (first | refine blk_drewN ?_ _ | refine blk_drew ?_ | refine blk_alloc ?_ _)); refine blk_put (cs := #[.int .i64 0, .int .i64 0, .int .i64 0, .int .i64 0, .int .i64 0, .int .i64 0, .int .i64 0, .int .i64 0, .int .i64 0, .bool false]) ?_ 9 _ rfl; (with_reducible repeat (first | refine blk_drewN ?_ _ | refine blk_drew ?_ | refine blk_alloc ?_ _)); refine blk_put (cs := #[.int .i64 0, .int .i64 0, .int .i64 0, .int .i64 0, .int .i64 0, .int .i64 0, .int .i64 0, .int .i64 0, .int .i64 0, .bool false]) ?_ 8 _ rfl; (with_reducible repeat (first | refine blk_drewN ?_ _ | refine blk_drew ?_ | refine blk_alloc ?_ _)); refine blk_put (cs := #[.int .i64 0, .int .i64 0, .int .i64 0, .int .i64 0, .int .i64 0, .int .i64 0, .int .i64 0, .int .i64 0, .int .i64 0, .bool false]) ?_ 7 _ rfl; (with_reducible repeat (first | refine blk_drewN ?_ _ | refine blk_drew ?_ | refine blk_alloc ?_ _)); refine blk_put (cs := #[.int .i64 0, .int .i64 0, .int .i64 0, .int .i64 0, .int .i64 0, .int .i64 0, .int .i64 0, .int .i64 0, .int .i64 0, .bool false]) ?_ 6 _ rfl; (with_reducible repeat (first | refine blk_drewN ?_ _ | refine blk_drew ?_ | refine blk_alloc ?_ _)); refine blk_put (cs := #[.int .i64 0, .int .i64 0, .int .i64 0, .int .i64 0, .int .i64 0, .int .i64 0, .int .i64 0, .int .i64 0, .int .i64 0, .bool false]) ?_ 5 _ rfl; (with_reducible repeat (first | refine blk_drewN ?_ _ | refine blk_drew ?_ | refine blk_alloc ?_ _)); refine blk_put (cs := #[.int .i64 0, .int .i64 0, .int .i64 0, .int .i64 0, .int .i64 0, .int .i64 0, .int .i64 0, .int .i64 0, .int .i64 0, .bool false]) ?_ 4 _ rfl; (with_reducible repeat (first | refine blk_drewN ?_ _ | refine blk_drew ?_ | refine blk_alloc ?_ _)); refine blk_put (cs := #[.int .i64 0, .int .i64 0, .int .i64 0, .int .i64 0, .int .i64 0, .int .i64 0, .int .i64 0, .int .i64 0, .int .i64 0, .bool false]) ?_ 3 _ rfl; (with_reducible repeat (first | refine blk_drewN ?_ _ | refine blk_drew ?_ | refine blk_alloc ?_ _)); refine blk_put (cs := #[.int .i64 0, .int .i64 0, .int .i64 0, .int .i64 0, .int .i64 0, .int .i64 0, .int .i64 0, .int .i64 0, .int .i64 0, .bool false]) ?_ 2 _ rfl; (with_reducible repeat (first | refine blk_drewN ?_ _ | refine blk_drew ?_ | refine blk_alloc ?_ _)); refine blk_put (cs := #[.int .i64 0, .int .i64 0, .int .i64 0, .int .i64 0, .int .i64 0, .int .i64 0, .int .i64 0, .int .i64 0, .int .i64 0, .bool false]) ?_ 1 _ rfl; (with_reducible repeat (first | refine blk_drewN ?_ _ | refine blk_drew ?_ | refine blk_alloc ?_ _)); refine blk_put (cs := #[.int .i64 0, .int .i64 0, .int .i64 0, .int .i64 0, .int .i64 0, .int .i64 0, .int .i64 0, .int .i64 0, .int .i64 0, .bool false]) ?_ 0 _ rfl; (with_reducible repeat (first | refine blk_drewN ?_ _ | refine blk_drew ?_ | refine blk_alloc ?_ _)); refine blk_far ?_ nB.out _; (with_reducible repeat (first | refine blk_drewN ?_ _ | refine blk_drew ?_ | refine blk_alloc ?_ _)); exact cA.out) : p := h
theorem Z5i {p : Prop} (h : p := by (with_reducible repeat (first | refine blk_drewN ?_ _ | refine blk_drew ?_ | refine blk_alloc ?_ _)); exact bA.out) : p := h
theorem Z5e {p : Prop} (h : p := by (with_reducible repeat (first | refine blk_drewN ?_ _ | refine blk_drew ?_ | refine blk_alloc ?_ _)); exact lA.out) : p := h
theorem Z5n {p : Prop} (h : p := by repeat (first | (with_reducible first | exact HB.out | apply below_alloc | apply pw_below_drewN | apply below_drew1 | refine below_set ?_ ZD.out | refine below_set ?_ RB.out | refine below_set ?_ UE.out | refine below_set ?_ uF.out | refine below_set ?_ zF.out) | exact HB.out)) : p := h
theorem Z5g {p : Prop} (h : p := by (with_reducible repeat (first | refine blk_drewN ?_ _ | refine blk_drew ?_ | refine blk_alloc ?_ _)); exact cA.out) : p := h
theorem Z5j {p : Prop} (h : p := by (with_reducible repeat (first | refine blk_drewN ?_ _ | refine blk_drew ?_ | refine blk_alloc ?_ _)); exact iA.out) : p := h
theorem Z5t {p : Prop} (h : p := by repeat (first | (with_reducible first | exact uA.out | apply IsS23.alloc | apply IsS23.drewN | apply IsS23.drew | apply IsS23.set_0 | apply IsS23.set_1 | apply IsS23.set_2 | apply IsS23.set_3 | apply IsS23.set_4 | apply IsS23.set_5 | apply IsS23.set_6 | apply IsS23.set_7 | apply IsS23.set_8 | apply IsS23.set_9 | apply IsS23.far_ QA.out | apply IsS23.far_ dA.out | apply IsS23.far_ aA.out | apply IsS23.far_ RA.out | apply IsS23.far_ UA.out) | exact uA.out)) : p := h
theorem Z5l {p : Prop} (h : p := by (with_reducible repeat (first | refine blk_drewN ?_ _ | refine blk_drew ?_ | refine blk_alloc ?_ _)); exact bB.out) : p := h
theorem Z5u {p : Prop} (h : p := by repeat (first | (with_reducible first | exact HB.out | apply below_alloc | apply pw_below_drewN | apply below_drew1 | refine below_set ?_ (IsS23.ge uA.out) | refine below_set ?_ ZD.out | refine below_set ?_ UE.out | refine below_set ?_ uF.out | refine below_set ?_ zF.out | refine below_set ?_ OF.out) | exact HB.out)) : p := h
theorem Z5k {p : Prop} (h : p := by (with_reducible repeat (first | apply Kd.R_alloc | apply Kd.R_drewN | apply Kd.R_drew)); exact fA.out) : p := h
theorem Z5aq {p : Prop} (h : p := by (with_reducible repeat (first | refine blk_drewN ?_ _ | refine blk_drew ?_ | refine blk_alloc ?_ _)); refine blk_put (cs := #[.int .i64 mB, .int .i64 oB, .int .i64 vB, .int .i64 0]) ?_ 3 _ rfl; (with_reducible repeat (first | refine blk_drewN ?_ _ | refine blk_drew ?_ | refine blk_alloc ?_ _)); refine blk_put (cs := #[.int .i64 mB, .int .i64 oB, .int .i64 0, .int .i64 0]) ?_ 2 _ rfl; (with_reducible repeat (first | refine blk_drewN ?_ _ | refine blk_drew ?_ | refine blk_alloc ?_ _)); refine blk_put (cs := #[.int .i64 mB, .int .i64 0, .int .i64 0, .int .i64 0]) ?_ 1 _ rfl; (with_reducible repeat (first | refine blk_drewN ?_ _ | refine blk_drew ?_ | refine blk_alloc ?_ _)); refine blk_put (cs := #[.int .i64 0, .int .i64 0, .int .i64 0, .int .i64 0]) ?_ 0 _ rfl; (with_reducible repeat (first | refine blk_drewN ?_ _ | refine blk_drew ?_ | refine blk_alloc ?_ _)); exact iA.out) : p := h
theorem Z5af {p : Prop} (h : p := by (iterate 10 ((with_reducible repeat (first | refine blk_drewN ?_ _ | refine blk_drew ?_ | refine blk_alloc ?_ _)); refine blk_far ?_ CB.out _)); (with_reducible repeat (first | refine blk_drewN ?_ _ | refine blk_drew ?_ | refine blk_alloc ?_ _)); refine blk_put (cs := #[.slice none 0 0]) ?_ 0 _ rfl; (with_reducible repeat (first | refine blk_drewN ?_ _ | refine blk_drew ?_ | refine blk_alloc ?_ _)); exact lA.out) : p := h
theorem Z5v {p : Prop} (h : p := by repeat (first | (with_reducible first | exact HB.out | apply below_alloc | apply pw_below_drewN | apply below_drew1 | refine below_set ?_ ZD.out | refine below_set ?_ RB.out | refine below_set ?_ UE.out | refine below_set ?_ uF.out) | exact HB.out)) : p := h
theorem Z5z {p : Prop} (h : p := by (with_reducible repeat (first | refine blk_drewN ?_ _ | refine blk_drew ?_ | refine blk_alloc ?_ _)); refine blk_far ?_ SA.out _; (with_reducible repeat (first | refine blk_drewN ?_ _ | refine blk_drew ?_ | refine blk_alloc ?_ _)); exact kA.out) : p := h
theorem Z5w {p : Prop} (h : p := by (with_reducible repeat (first | refine blk_drewN ?_ _ | refine blk_drew ?_ | refine blk_alloc ?_ _)); refine blk_far ?_ rA.out _; (with_reducible repeat (first | refine blk_drewN ?_ _ | refine blk_drew ?_ | refine blk_alloc ?_ _)); exact lA.out) : p := h
theorem Z5r {p : Prop} (h : p := by (with_reducible repeat (first | refine blk_drewN ?_ _ | refine blk_drew ?_ | refine blk_alloc ?_ _)); refine blk_far ?_ sA.out _; (with_reducible repeat (first | refine blk_drewN ?_ _ | refine blk_drew ?_ | refine blk_alloc ?_ _)); exact cA.out) : p := h
theorem Z5aa {p : Prop} (h : p := by (with_reducible repeat (first | refine blk_drewN ?_ _ | refine blk_drew ?_ | refine blk_alloc ?_ _)); refine blk_far ?_ VA.out _; (with_reducible repeat (first | refine blk_drewN ?_ _ | refine blk_drew ?_ | refine blk_alloc ?_ _)); exact iA.out) : p := h
theorem Z5y {p : Prop} (h : p := by (with_reducible repeat (first | refine blk_drewN ?_ _ | refine blk_drew ?_ | refine blk_alloc ?_ _)); refine blk_far ?_ YA.out _; (with_reducible repeat (first | refine blk_drewN ?_ _ | refine blk_drew ?_ | refine blk_alloc ?_ _)); exact bB.out) : p := h
theorem Z5x {p : Prop} (h : p := by rw [hg]; exact Nat.ne_of_lt (blk_lt (g := eA) (o := .cells #[.int .i64 GA, .int .i64 IA, .int .i64 JA, .int .i64 gA, .int .i64 KA, .int .i64 LA, .int .i64 MA, .int .i64 NA, .int .i64 OA, .bool PA] 23 (0, 0)) Z5i)) : p := h
theorem Z5ab {p : Prop} (h : p := by rw [hg]; exact Nat.ne_of_gt (blk_lt (g := eA) (o := .cells #[.int .i64 GA, .int .i64 IA, .int .i64 JA, .int .i64 gA, .int .i64 KA, .int .i64 LA, .int .i64 MA, .int .i64 NA, .int .i64 OA, .bool PA] 23 (0, 0)) Z5i)) : p := h
theorem Z5o {p : Prop} (h : p := by (try simp only [List.map_toArray, List.map_cons, List.map_nil]); first | done | rfl | (simp only [List.length_drop, List.length_take]; rfl)) : p := h
theorem Z5ac {p : Prop} (h : p := by (with_reducible repeat (first | refine blk_drewN ?_ _ | refine blk_drew ?_ | refine blk_alloc ?_ _)); refine blk_put (cs := #[.slice none 0 0]) ?_ 0 _ rfl; (with_reducible repeat (first | refine blk_drewN ?_ _ | refine blk_drew ?_ | refine blk_alloc ?_ _)); exact bB.out) : p := h
theorem Z5ak {p : Prop} (h : p := by (with_reducible repeat (first | apply Kd.R_alloc | apply Kd.R_drewN | apply Kd.R_drew)); exact Kd.R_mono (Kd.R_far (p := ⟨dB, 0, none⟩) (Kd.R_types VE.out bB.out (by decide)) (fun _ hk => hk.2) (.slice IB hB.length JB)) (fun _ hk => trivial)) : p := h
theorem Z5aj {p : Prop} (h : p := by (with_reducible repeat (first | refine blk_drewN ?_ _ | refine blk_drew ?_ | refine blk_alloc ?_ _)); refine blk_far ?_ aE.out _; (with_reducible repeat (first | refine blk_drewN ?_ _ | refine blk_drew ?_ | refine blk_alloc ?_ _)); exact kA.out) : p := h
theorem Z5ag {p : Prop} (h : p := by (with_reducible repeat (first | refine blk_drewN ?_ _ | refine blk_drew ?_ | refine blk_alloc ?_ _)); refine blk_far ?_ UA.out _; (with_reducible repeat (first | refine blk_drewN ?_ _ | refine blk_drew ?_ | refine blk_alloc ?_ _)); exact bA.out) : p := h
theorem Z5ai {p : Prop} (h : p := by (with_reducible repeat (first | refine blk_drewN ?_ _ | refine blk_drew ?_ | refine blk_alloc ?_ _)); refine blk_far ?_ DB.out _; (with_reducible repeat (first | refine blk_drewN ?_ _ | refine blk_drew ?_ | refine blk_alloc ?_ _)); exact lA.out) : p := h
theorem Z5am {p : Prop} (h : p := by (with_reducible repeat (first | refine blk_drewN ?_ _ | refine blk_drew ?_ | refine blk_alloc ?_ _)); refine blk_far ?_ EB.out _; (with_reducible repeat (first | refine blk_drewN ?_ _ | refine blk_drew ?_ | refine blk_alloc ?_ _)); exact cA.out) : p := h
theorem Z5ao {p : Prop} (h : p := by (with_reducible repeat (first | refine blk_drewN ?_ _ | refine blk_drew ?_ | refine blk_alloc ?_ _)); refine blk_far ?_ bE.out _; (with_reducible repeat (first | refine blk_drewN ?_ _ | refine blk_drew ?_ | refine blk_alloc ?_ _)); exact iA.out) : p := h
theorem Z5ad {p : Prop} (h : p := by repeat (first | (with_reducible first | exact HB.out | apply below_alloc | apply pw_below_drewN | apply below_drew1 | refine below_set ?_ ZD.out | refine below_set ?_ RB.out | refine below_set ?_ UE.out) | exact HB.out)) : p := h
theorem Z5p {p : Prop} (h : p := by rw [hg]; exact Nat.ne_of_lt (blk_lt (g := FA) (o := .cells #[.slice iB ZA.length jB] 29 (0, 0)) Z5f)) : p := h
theorem Z5q {p : Prop} (h : p := by rw [hg]; exact Nat.ne_of_gt (blk_lt (g := FA) (o := .cells #[.slice iB ZA.length jB] 29 (0, 0)) Z5f)) : p := h
theorem Z5ap {p : Prop} (h : p := by (with_reducible repeat (first | refine blk_drewN ?_ _ | refine blk_drew ?_ | refine blk_alloc ?_ _)); refine blk_put (cs := #[.int .i64 GA, .int .i64 IA, .int .i64 JA, .int .i64 gA, .int .i64 KA, .int .i64 LA, .int .i64 MA, .int .i64 NA, .int .i64 OA, .bool PA]) ?_ 3 _ rfl; (with_reducible repeat (first | refine blk_drewN ?_ _ | refine blk_drew ?_ | refine blk_alloc ?_ _)); exact bA.out) : p := h
theorem Z5ae {p : Prop} (h : p := by repeat (first | (with_reducible first | exact HB.out | apply below_alloc | apply pw_below_drewN | apply below_drew1 | refine below_set ?_ ZD.out | refine below_set ?_ RB.out) | exact HB.out)) : p := h
theorem Z5m {p : Prop} (h : p := by first | rfl | (simp; done) | (simp [*]; done)) : p := h
theorem Z5an {p : Prop} (h : p := by repeat (first | (with_reducible first | exact HB.out | apply below_alloc | apply pw_below_drewN | apply below_drew1 | refine below_set ?_ ZD.out) | exact HB.out)) : p := h
theorem Z5av {p : Prop} (h : p := by (iterate 4 ((with_reducible repeat (first | refine blk_drewN ?_ _ | refine blk_drew ?_ | refine blk_alloc ?_ _)); refine blk_far ?_ FB.out _)); (with_reducible repeat (first | refine blk_drewN ?_ _ | refine blk_drew ?_ | refine blk_alloc ?_ _)); exact kA.out) : p := h
theorem Z5ar {p : Prop} (h : p := by (iterate 4 ((with_reducible repeat (first | refine blk_drewN ?_ _ | refine blk_drew ?_ | refine blk_alloc ?_ _)); refine blk_far ?_ RA.out _)); (with_reducible repeat (first | refine blk_drewN ?_ _ | refine blk_drew ?_ | refine blk_alloc ?_ _)); exact bA.out) : p := h
theorem Z5au {p : Prop} (h : p := by (iterate 4 ((with_reducible repeat (first | refine blk_drewN ?_ _ | refine blk_drew ?_ | refine blk_alloc ?_ _)); refine blk_far ?_ kB.out _)); (with_reducible repeat (first | refine blk_drewN ?_ _ | refine blk_drew ?_ | refine blk_alloc ?_ _)); exact lA.out) : p := h
theorem Z5aw {p : Prop} (h : p := by (iterate 4 ((with_reducible repeat (first | refine blk_drewN ?_ _ | refine blk_drew ?_ | refine blk_alloc ?_ _)); refine blk_far ?_ lB.out _)); (with_reducible repeat (first | refine blk_drewN ?_ _ | refine blk_drew ?_ | refine blk_alloc ?_ _)); exact cA.out) : p := h
theorem Z5ax {p : Prop} (h : p := by (with_reducible repeat (first | apply Kd.R_alloc | apply Kd.R_drewN | apply Kd.R_drew)); exact Kd.R_mono (Kd.R_far (p := ⟨eA, 3, none⟩) (Kd.R_types fA.out bA.out (by decide)) (fun _ hk => hk.2) (.int .i64 (wrap64 (gA + 1)))) (fun _ hk => trivial)) : p := h
theorem Z5al {p : Prop} (h : p := by repeat (first | (with_reducible first | exact HB.out | apply below_alloc | apply pw_below_drewN | apply below_drew1) | exact HB.out)) : p := h
theorem Z5s {p : Prop} (h : p := by have := HJ4.out; have := HJ37.out; have := HJ93.out; first | omega | exact Nat.le_refl _) : p := h
theorem Z5ah {p : Prop} (h : p := by have := HJ4.out; have := HJ37.out; have := HJ93.out; have := HJ105.out; first | omega | exact Nat.le_refl _) : p := h
theorem Z5as {p : Prop} (h : p := by rw [hg]; exact Nat.ne_of_lt (blk_lt (g := jA) (o := .cells #[.int .i64 0, .int .i64 0, .int .i64 0, .int .i64 0, .int .i64 0, .int .i64 0, .int .i64 0, .int .i64 0, .int .i64 0, .bool false] 23 (0, 0)) Z5g)) : p := h
theorem Z5at {p : Prop} (h : p := by rw [hg]; exact Nat.ne_of_gt (blk_lt (g := jA) (o := .cells #[.int .i64 0, .int .i64 0, .int .i64 0, .int .i64 0, .int .i64 0, .int .i64 0, .int .i64 0, .int .i64 0, .int .i64 0, .bool false] 23 (0, 0)) Z5g)) : p := h
/-! ### impl_LiStep: function 26 -/
mutual
def impl_LiStep.j0 : Nat → Int → Bool → List Int → Int → Int → Int → Int → Int → Int → Int → Int → Int → Bool → Int → Int → Int → Int → Option (List Int × Int × Int × Int × Int × Int × Int × Int × Int × Int × Bool × Bool)
 | 0, _, _, _, _, _, _, _, _, _, _, _, _, _, _, _, _, _ => none
 | k + 1, x0, x31, IF, wA, xA, yA, mA, zA, AA, BA, CA, DA, EA, JF, KF, LF, MF => if x31 = true then (some (([] : List Int), 0, 0, 0, 0, 0, 0, 0, 0, 0, false, false)) else ((impl_Do.f IF JF KF LF MF).bind fun yC => (if yC.2.2 = true then (if mA < 2 then ((impl_isLink.f yC.2.1 x0).bind fun NF => (impl_LiStep.j1 k yC.2.1 (!NF) wA xA yA mA zA AA BA CA DA EA yC.1)) else (impl_LiStep.j1 k yC.2.1 false wA xA yA mA zA AA BA CA DA EA yC.1)) else (impl_LiStep.j1 k yC.2.1 true wA xA yA mA zA AA BA CA DA EA yC.1)))
def impl_LiStep.j1 : Nat → Int → Bool → Int → Int → Int → Int → Int → Int → Int → Int → Int → Bool → List Int → Option (List Int × Int × Int × Int × Int × Int × Int × Int × Int × Int × Bool × Bool)
 | 0, _, _, _, _, _, _, _, _, _, _, _, _, _ => none
 | k + 1, x12, x53, wA, xA, yA, mA, zA, AA, BA, CA, DA, EA, aB => if x53 = true then (some (([] : List Int), 0, 0, 0, 0, 0, 0, 0, 0, 0, false, false)) else (if mA ≤ 2 then ((impl_Call_liRead.f k wA xA yA (wrap64 (mA + 1)) zA AA BA CA DA EA mA x12).bind fun KB => (impl_LiStep.j4 k KB.1 KB.2.1 KB.2.2.1 KB.2.2.2.1 KB.2.2.2.2.1 KB.2.2.2.2.2.1 KB.2.2.2.2.2.2.1 KB.2.2.2.2.2.2.2.1 KB.2.2.2.2.2.2.2.2.1 KB.2.2.2.2.2.2.2.2.2 aB)) else (if mA = 3 then (impl_LiStep.j2 k x12 mA (x12 == 0) wA xA yA (wrap64 (mA + 1)) zA AA BA CA DA EA aB) else (impl_LiStep.j2 k x12 mA false wA xA yA (wrap64 (mA + 1)) zA AA BA CA DA EA aB)))
def impl_LiStep.j4 : Nat → Int → Int → Int → Int → Int → Int → Int → Int → Int → Bool → List Int → Option (List Int × Int × Int × Int × Int × Int × Int × Int × Int × Int × Bool × Bool)
 | 0, _, _, _, _, _, _, _, _, _, _, _ => none
 | k + 1, wA, xA, yA, mA, zA, AA, BA, CA, DA, EA, aB => some (aB, wA, xA, yA, mA, zA, AA, BA, CA, DA, EA, true)
def impl_LiStep.j2 : Nat → Int → Int → Bool → Int → Int → Int → Int → Int → Int → Int → Int → Int → Bool → List Int → Option (List Int × Int × Int × Int × Int × Int × Int × Int × Int × Int × Bool × Bool)
 | 0, _, _, _, _, _, _, _, _, _, _, _, _, _, _ => none
 | k + 1, x12, x14, x68, wA, xA, yA, mA, zA, AA, BA, CA, DA, EA, aB => if x68 = true then ((impl_Call_again.f wA xA yA mA zA AA BA CA DA EA).bind fun LB => (impl_LiStep.j4 k LB.1 LB.2.1 LB.2.2.1 LB.2.2.2.1 LB.2.2.2.2.1 LB.2.2.2.2.2.1 LB.2.2.2.2.2.2.1 LB.2.2.2.2.2.2.2.1 LB.2.2.2.2.2.2.2.2.1 LB.2.2.2.2.2.2.2.2.2 aB)) else (if x14 = 3 then (impl_LiStep.j4 k wA xA yA 0 zA AA BA CA DA EA aB) else (if x14 ≥ 6 then (impl_LiStep.j3 k x14 (x12 == 1) wA xA yA mA zA AA BA CA DA EA aB) else (impl_LiStep.j3 k x14 false wA xA yA mA zA AA BA CA DA EA aB)))
def impl_LiStep.j3 : Nat → Int → Bool → Int → Int → Int → Int → Int → Int → Int → Int → Int → Bool → List Int → Option (List Int × Int × Int × Int × Int × Int × Int × Int × Int × Int × Bool × Bool)
 | 0, _, _, _, _, _, _, _, _, _, _, _, _, _ => none
 | k + 1, x14, x80, wA, xA, yA, mA, zA, AA, BA, CA, DA, EA, aB => if x80 = true then ((impl_Call_end.f wA xA yA mA zA AA BA CA DA EA 1).bind fun MB => (impl_LiStep.j4 k MB.1 MB.2.1 MB.2.2.1 MB.2.2.2.1 MB.2.2.2.2.1 MB.2.2.2.2.2.1 MB.2.2.2.2.2.2.1 MB.2.2.2.2.2.2.2.1 MB.2.2.2.2.2.2.2.2.1 MB.2.2.2.2.2.2.2.2.2 aB)) else (if x14 ≥ 6 then ((impl_Call_again.f wA xA yA mA zA AA BA CA DA EA).bind fun NB => (impl_LiStep.j4 k NB.1 NB.2.1 NB.2.2.1 NB.2.2.2.1 NB.2.2.2.2.1 NB.2.2.2.2.2.1 NB.2.2.2.2.2.2.1 NB.2.2.2.2.2.2.2.1 NB.2.2.2.2.2.2.2.2.1 NB.2.2.2.2.2.2.2.2.2 aB)) else (impl_LiStep.j4 k wA xA yA mA zA AA BA CA DA EA aB))
end
def impl_LiStep.f (k : Nat) (a0 : Int) (ZA : List Int) (GA : Int) (IA : Int) (JA : Int) (gA : Int) (KA : Int) (LA : Int) (MA : Int) (NA : Int) (OA : Int) (PA : Bool) : Option (List Int × Int × Int × Int × Int × Int × Int × Int × Int × Int × Bool × Bool) := (impl_LiAct.f k a0 GA IA JA gA KA LA MA NA OA PA).bind fun fB => (if fB.2.2.2.2 = true then (impl_LiStep.j0 k a0 ((ZA.length : Int) != (wrap64 (1 + (wrap64 (2 * a0))))) ZA GA IA JA gA KA LA MA NA OA PA fB.1 fB.2.1 fB.2.2.1 fB.2.2.2.1) else (impl_LiStep.j0 k a0 true ZA GA IA JA gA KA LA MA NA OA PA fB.1 fB.2.1 fB.2.2.1 fB.2.2.2.1))
theorem impl_LiStep.mono_l : ∀ k, (∀ y0 y1 y2 y3 y4 y5 y6 y7 y8 y9 y10 y11 y12 y13 y14 y15 y16, LeO (impl_LiStep.j0 k y0 y1 y2 y3 y4 y5 y6 y7 y8 y9 y10 y11 y12 y13 y14 y15 y16) (impl_LiStep.j0 (k + 1) y0 y1 y2 y3 y4 y5 y6 y7 y8 y9 y10 y11 y12 y13 y14 y15 y16)) ∧ (∀ y0 y1 y2 y3 y4 y5 y6 y7 y8 y9 y10 y11 y12, LeO (impl_LiStep.j1 k y0 y1 y2 y3 y4 y5 y6 y7 y8 y9 y10 y11 y12) (impl_LiStep.j1 (k + 1) y0 y1 y2 y3 y4 y5 y6 y7 y8 y9 y10 y11 y12)) ∧ (∀ y0 y1 y2 y3 y4 y5 y6 y7 y8 y9 y10, LeO (impl_LiStep.j4 k y0 y1 y2 y3 y4 y5 y6 y7 y8 y9 y10) (impl_LiStep.j4 (k + 1) y0 y1 y2 y3 y4 y5 y6 y7 y8 y9 y10)) ∧ (∀ y0 y1 y2 y3 y4 y5 y6 y7 y8 y9 y10 y11 y12 y13, LeO (impl_LiStep.j2 k y0 y1 y2 y3 y4 y5 y6 y7 y8 y9 y10 y11 y12 y13) (impl_LiStep.j2 (k + 1) y0 y1 y2 y3 y4 y5 y6 y7 y8 y9 y10 y11 y12 y13)) ∧ (∀ y0 y1 y2 y3 y4 y5 y6 y7 y8 y9 y10 y11 y12, LeO (impl_LiStep.j3 k y0 y1 y2 y3 y4 y5 y6 y7 y8 y9 y10 y11 y12) (impl_LiStep.j3 (k + 1) y0 y1 y2 y3 y4 y5 y6 y7 y8 y9 y10 y11 y12))
 | 0 => ⟨fun _ _ _ _ _ _ _ _ _ _ _ _ _ _ _ _ _ r h => by simp [impl_LiStep.j0] at h, fun _ _ _ _ _ _ _ _ _ _ _ _ _ r h => by simp [impl_LiStep.j1] at h, fun _ _ _ _ _ _ _ _ _ _ _ r h => by simp [impl_LiStep.j4] at h, fun _ _ _ _ _ _ _ _ _ _ _ _ _ _ r h => by simp [impl_LiStep.j2] at h, fun _ _ _ _ _ _ _ _ _ _ _ _ _ r h => by simp [impl_LiStep.j3] at h⟩
 | k + 1 => by
  obtain ⟨ih0, ih1, ih2, ih3, ih4⟩ := impl_LiStep.mono_l k
  refine ⟨?_, ?_, ?_, ?_, ?_⟩
  ·intro y0 y1 y2 y3 y4 y5 y6 y7 y8 y9 y10 y11 y12 y13 y14 y15 y16
   unfold impl_LiStep.j0
   repeat' first
   | (with_reducible exact ih0 _ _ _ _ _ _ _ _ _ _ _ _ _ _ _ _ _)
   | (with_reducible exact ih1 _ _ _ _ _ _ _ _ _ _ _ _ _)
   | (with_reducible exact ih2 _ _ _ _ _ _ _ _ _ _ _)
   | (with_reducible exact ih3 _ _ _ _ _ _ _ _ _ _ _ _ _ _)
   | (with_reducible exact ih4 _ _ _ _ _ _ _ _ _ _ _ _ _)
   | (with_reducible exact impl_Call_liRead.mono _ _ _ _ _ _ _ _ _ _ _ _ _)
   | (with_reducible exact impl_LiAct.mono _ _ _ _ _ _ _ _ _ _ _ _)
   | (with_reducible exact LeO.refl _)
   | (with_reducible exact LeO.none _)
   | (with_reducible refine LeO.ite ?_ ?_)
   | (with_reducible refine LeO.bind ?_ (fun _ => ?_))
   | exact ih0 _ _ _ _ _ _ _ _ _ _ _ _ _ _ _ _ _
   | exact ih1 _ _ _ _ _ _ _ _ _ _ _ _ _
   | exact ih2 _ _ _ _ _ _ _ _ _ _ _
   | exact ih3 _ _ _ _ _ _ _ _ _ _ _ _ _ _
   | exact ih4 _ _ _ _ _ _ _ _ _ _ _ _ _
   | exact impl_Call_liRead.mono _ _ _ _ _ _ _ _ _ _ _ _ _
   | exact impl_LiAct.mono _ _ _ _ _ _ _ _ _ _ _ _
   | exact LeO.none _
   | refine LeO.ite ?_ ?_
   | refine LeO.bind ?_ (fun _ => ?_)
  ·intro y0 y1 y2 y3 y4 y5 y6 y7 y8 y9 y10 y11 y12
   unfold impl_LiStep.j1
   repeat' first
   | (with_reducible exact ih0 _ _ _ _ _ _ _ _ _ _ _ _ _ _ _ _ _)
   | (with_reducible exact ih1 _ _ _ _ _ _ _ _ _ _ _ _ _)
   | (with_reducible exact ih2 _ _ _ _ _ _ _ _ _ _ _)
   | (with_reducible exact ih3 _ _ _ _ _ _ _ _ _ _ _ _ _ _)
   | (with_reducible exact ih4 _ _ _ _ _ _ _ _ _ _ _ _ _)
   | (with_reducible exact impl_Call_liRead.mono _ _ _ _ _ _ _ _ _ _ _ _ _)
   | (with_reducible exact impl_LiAct.mono _ _ _ _ _ _ _ _ _ _ _ _)
   | (with_reducible exact LeO.refl _)
   | (with_reducible exact LeO.none _)
   | (with_reducible refine LeO.ite ?_ ?_)
   | (with_reducible refine LeO.bind ?_ (fun _ => ?_))
   | exact ih0 _ _ _ _ _ _ _ _ _ _ _ _ _ _ _ _ _
   | exact ih1 _ _ _ _ _ _ _ _ _ _ _ _ _
   | exact ih2 _ _ _ _ _ _ _ _ _ _ _
   | exact ih3 _ _ _ _ _ _ _ _ _ _ _ _ _ _
   | exact ih4 _ _ _ _ _ _ _ _ _ _ _ _ _
   | exact impl_Call_liRead.mono _ _ _ _ _ _ _ _ _ _ _ _ _
   | exact impl_LiAct.mono _ _ _ _ _ _ _ _ _ _ _ _
   | exact LeO.none _
   | refine LeO.ite ?_ ?_
   | refine LeO.bind ?_ (fun _ => ?_)
  ·intro y0 y1 y2 y3 y4 y5 y6 y7 y8 y9 y10
   unfold impl_LiStep.j4
   repeat' first
   | (with_reducible exact ih0 _ _ _ _ _ _ _ _ _ _ _ _ _ _ _ _ _)
   | (with_reducible exact ih1 _ _ _ _ _ _ _ _ _ _ _ _ _)
   | (with_reducible exact ih2 _ _ _ _ _ _ _ _ _ _ _)
   | (with_reducible exact ih3 _ _ _ _ _ _ _ _ _ _ _ _ _ _)
   | (with_reducible exact ih4 _ _ _ _ _ _ _ _ _ _ _ _ _)
   | (with_reducible exact impl_Call_liRead.mono _ _ _ _ _ _ _ _ _ _ _ _ _)
   | (with_reducible exact impl_LiAct.mono _ _ _ _ _ _ _ _ _ _ _ _)
   | (with_reducible exact LeO.refl _)
   | (with_reducible exact LeO.none _)
   | (with_reducible refine LeO.ite ?_ ?_)
   | (with_reducible refine LeO.bind ?_ (fun _ => ?_))
   | exact ih0 _ _ _ _ _ _ _ _ _ _ _ _ _ _ _ _ _
   | exact ih1 _ _ _ _ _ _ _ _ _ _ _ _ _
   | exact ih2 _ _ _ _ _ _ _ _ _ _ _
   | exact ih3 _ _ _ _ _ _ _ _ _ _ _ _ _ _
   | exact ih4 _ _ _ _ _ _ _ _ _ _ _ _ _
   | exact impl_Call_liRead.mono _ _ _ _ _ _ _ _ _ _ _ _ _
   | exact impl_LiAct.mono _ _ _ _ _ _ _ _ _ _ _ _
   | exact LeO.none _
   | refine LeO.ite ?_ ?_
   | refine LeO.bind ?_ (fun _ => ?_)
  ·intro y0 y1 y2 y3 y4 y5 y6 y7 y8 y9 y10 y11 y12 y13
   unfold impl_LiStep.j2
   repeat' first
   | (with_reducible exact ih0 _ _ _ _ _ _ _ _ _ _ _ _ _ _ _ _ _)
   | (with_reducible exact ih1 _ _ _ _ _ _ _ _ _ _ _ _ _)
   | (with_reducible exact ih2 _ _ _ _ _ _ _ _ _ _ _)
   | (with_reducible exact ih3 _ _ _ _ _ _ _ _ _ _ _ _ _ _)
   | (with_reducible exact ih4 _ _ _ _ _ _ _ _ _ _ _ _ _)
   | (with_reducible exact impl_Call_liRead.mono _ _ _ _ _ _ _ _ _ _ _ _ _)
   | (with_reducible exact impl_LiAct.mono _ _ _ _ _ _ _ _ _ _ _ _)
   | (with_reducible exact LeO.refl _)
   | (with_reducible exact LeO.none _)
   | (with_reducible refine LeO.ite ?_ ?_)
   | (with_reducible refine LeO.bind ?_ (fun _ => ?_))
   | exact ih0 _ _ _ _ _ _ _ _ _ _ _ _ _ _ _ _ _
   | exact ih1 _ _ _ _ _ _ _ _ _ _ _ _ _
   | exact ih2 _ _ _ _ _ _ _ _ _ _ _
   | exact ih3 _ _ _ _ _ _ _ _ _ _ _ _ _ _
   | exact ih4 _ _ _ _ _ _ _ _ _ _ _ _ _
   | exact impl_Call_liRead.mono _ _ _ _ _ _ _ _ _ _ _ _ _
   | exact impl_LiAct.mono _ _ _ _ _ _ _ _ _ _ _ _
   | exact LeO.none _
   | refine LeO.ite ?_ ?_
   | refine LeO.bind ?_ (fun _ => ?_)
  ·intro y0 y1 y2 y3 y4 y5 y6 y7 y8 y9 y10 y11 y12
   unfold impl_LiStep.j3
   repeat' first
   | (with_reducible exact ih0 _ _ _ _ _ _ _ _ _ _ _ _ _ _ _ _ _)
   | (with_reducible exact ih1 _ _ _ _ _ _ _ _ _ _ _ _ _)
   | (with_reducible exact ih2 _ _ _ _ _ _ _ _ _ _ _)
   | (with_reducible exact ih3 _ _ _ _ _ _ _ _ _ _ _ _ _ _)
   | (with_reducible exact ih4 _ _ _ _ _ _ _ _ _ _ _ _ _)
   | (with_reducible exact impl_Call_liRead.mono _ _ _ _ _ _ _ _ _ _ _ _ _)
   | (with_reducible exact impl_LiAct.mono _ _ _ _ _ _ _ _ _ _ _ _)
   | (with_reducible exact LeO.refl _)
   | (with_reducible exact LeO.none _)
   | (with_reducible refine LeO.ite ?_ ?_)
   | (with_reducible refine LeO.bind ?_ (fun _ => ?_))
   | exact ih0 _ _ _ _ _ _ _ _ _ _ _ _ _ _ _ _ _
   | exact ih1 _ _ _ _ _ _ _ _ _ _ _ _ _
   | exact ih2 _ _ _ _ _ _ _ _ _ _ _
   | exact ih3 _ _ _ _ _ _ _ _ _ _ _ _ _ _
   | exact ih4 _ _ _ _ _ _ _ _ _ _ _ _ _
   | exact impl_Call_liRead.mono _ _ _ _ _ _ _ _ _ _ _ _ _
   | exact impl_LiAct.mono _ _ _ _ _ _ _ _ _ _ _ _
   | exact LeO.none _
   | refine LeO.ite ?_ ?_
   | refine LeO.bind ?_ (fun _ => ?_)
theorem impl_LiStep.mono : ∀ a0 a1 a2 a3 a4 a5 a6 a7 a8 a9 a10 a11 k, LeO (impl_LiStep.f k a0 a1 a2 a3 a4 a5 a6 a7 a8 a9 a10 a11) (impl_LiStep.f (k + 1) a0 a1 a2 a3 a4 a5 a6 a7 a8 a9 a10 a11) := by
 intro a0 a1 a2 a3 a4 a5 a6 a7 a8 a9 a10 a11 k
 obtain ⟨ih0, ih1, ih2, ih3, ih4⟩ := impl_LiStep.mono_l k
 unfold impl_LiStep.f
 repeat' first
   | (with_reducible exact ih0 _ _ _ _ _ _ _ _ _ _ _ _ _ _ _ _ _)
   | (with_reducible exact ih1 _ _ _ _ _ _ _ _ _ _ _ _ _)
   | (with_reducible exact ih2 _ _ _ _ _ _ _ _ _ _ _)
   | (with_reducible exact ih3 _ _ _ _ _ _ _ _ _ _ _ _ _ _)
   | (with_reducible exact ih4 _ _ _ _ _ _ _ _ _ _ _ _ _)
   | (with_reducible exact impl_Call_liRead.mono _ _ _ _ _ _ _ _ _ _ _ _ _)
   | (with_reducible exact impl_LiAct.mono _ _ _ _ _ _ _ _ _ _ _ _)
   | (with_reducible exact LeO.refl _)
   | (with_reducible exact LeO.none _)
   | (with_reducible refine LeO.ite ?_ ?_)
   | (with_reducible refine LeO.bind ?_ (fun _ => ?_))
   | exact ih0 _ _ _ _ _ _ _ _ _ _ _ _ _ _ _ _ _
   | exact ih1 _ _ _ _ _ _ _ _ _ _ _ _ _
   | exact ih2 _ _ _ _ _ _ _ _ _ _ _
   | exact ih3 _ _ _ _ _ _ _ _ _ _ _ _ _ _
   | exact ih4 _ _ _ _ _ _ _ _ _ _ _ _ _
   | exact impl_Call_liRead.mono _ _ _ _ _ _ _ _ _ _ _ _ _
   | exact impl_LiAct.mono _ _ _ _ _ _ _ _ _ _ _ _
   | exact LeO.none _
   | refine LeO.ite ?_ ?_
   | refine LeO.bind ?_ (fun _ => ?_)
set_option maxHeartbeats 8000000 in
set_option maxRecDepth 100000 in
theorem impl_LiStep.calls (k : Nat) (a0 : Int) (iB : Option Addr) (jB : Nat) (ZA : List Int) (GA : Int) (IA : Int) (JA : Int) (gA : Int) (KA : Int) (LA : Int) (MA : Int) (NA : Int) (OA : Int) (PA : Bool) (r1 : List Int) (r2 : Int) (r3 : Int) (r4 : Int) (r5 : Int) (r6 : Int) (r7 : Int) (r8 : Int) (r9 : Int) (r10 : Int) (r11 : Bool) (r12 : Bool) (w : World) (PF : Kd.C (Kd.int .i64) w iB ZA.length ZA) (QF : ZA.length ≤ jB) (h : impl_LiStep.f k a0 ZA GA IA JA gA KA LA MA NA OA PA = some (r1, r2, r3, r4, r5, r6, r7, r8, r9, r10, r11, r12)) :
  Calls Try.prog 26 #[.int .i64 a0, .agg #[.slice iB ZA.length jB], .agg #[.int .i64 GA, .int .i64 IA, .int .i64 JA, .int .i64 gA, .int .i64 KA, .int .i64 LA, .int .i64 MA, .int .i64 NA, .int .i64 OA, .bool PA]] w fun e w' => ∃ v0_ : Value, e = .returned (.tuple #[.agg #[v0_], .agg #[.int .i64 r2, .int .i64 r3, .int .i64 r4, .int .i64 r5, .int .i64 r6, .int .i64 r7, .int .i64 r8, .int .i64 r9, .int .i64 r10, .bool r11], .bool r12]) ∧ Kd.R (Kd.int .i64) 3 w' w.heap.size (fun _ => True) v0_ r1 ∧ Below w.heap.size w w' := by
 have hu29 := Try.underlying29
 have hu23 := Try.underlying23
 have hu37 := Try.underlying37
 have RF := Z5a PF
 have SF := Z5a QF
 clear PF QF
 have HB := Z5a (Below.refl w.heap.size w)
 have H : ((impl_LiAct.f k a0 GA IA JA gA KA LA MA NA OA PA).bind fun fB => (if fB.2.2.2.2 = true then (impl_LiStep.j0 k a0 ((ZA.length : Int) != (wrap64 (1 + (wrap64 (2 * a0))))) ZA GA IA JA gA KA LA MA NA OA PA fB.1 fB.2.1 fB.2.2.1 fB.2.2.2.1) else (impl_LiStep.j0 k a0 true ZA GA IA JA gA KA LA MA NA OA PA fB.1 fB.2.1 fB.2.2.1 fB.2.2.2.1))) = some (r1, r2, r3, r4, r5, r6, r7, r8, r9, r10, r11, r12) := h
 clear h
 replace H := Option.bind_eq_some_iff.mp H
 obtain ⟨⟨mB, oB, vB, AB, TF⟩, A40, H⟩ := H
 (try dsimp only at H)
 have A4 := Z5a A40
 clear A40
 have HC5 := Z5a H
 clear H
 go_enter Try.func26, Try.ntmps26
 go_upto_region 2 with (first | ((with_reducible refine gate_dst (N := 4) rfl ?_); (try (refine gate_guard (by rfl) ?_; dsimp only)); refine box_event ?hg (N := 4) ?hd (cs := #[.slice iB ZA.length jB]) (t := 29) ?hr ?_; (case hd => rfl); (case hg => rfl); (case hr => first | (go_simp; done) | (go_simp; rfl)); intro FA hg w6 hbox hb; have wB := Z5a (below_step Z5al hb); have xB := Z5a (hbox); have yB := Z5a ((by rw [hg]; exact (below_size Z5al) : w.heap.size ≤ FA)); have zB := Z5a ((by rw [hg]; exact (below_size Z5al) : w.heap.size ≤ FA)); clear HB; have HB := wB; have kA := xB; have BH := yB; have ZD := zB; clear wB xB yB zB; clear hb hbox hg) | ((with_reducible refine gate_dst (N := 5) rfl ?_); (try (refine gate_guard (by rfl) ?_; dsimp only)); refine box_event ?hg (N := 5) ?hd (cs := #[.int .i64 GA, .int .i64 IA, .int .i64 JA, .int .i64 gA, .int .i64 KA, .int .i64 LA, .int .i64 MA, .int .i64 NA, .int .i64 OA, .bool PA]) (t := 23) ?hr ?_; (case hd => rfl); (case hg => rfl); (case hr => first | (go_simp; done) | (go_simp; rfl)); intro eA hg w7 hbox hb; have wB := Z5a (blk_below (g := FA) (o := .cells #[.slice iB ZA.length jB] 29 (0, 0)) Z5f hb); have xB := Z5a (below_step Z5an hb); have yB := Z5a (hbox); have zB := Z5a ((by rw [hg]; exact (below_size Z5an) : w.heap.size ≤ eA)); have BB := Z5a ((by rw [hg]; exact (below_size Z5an) : w.heap.size ≤ eA)); have OB := Z5a ((Z5p : FA ≠ eA)); have PB := Z5a ((Z5q : eA ≠ FA)); clear kA HB; have kA := wB; have HB := xB; have bA := yB; have CH := zB; have RB := BB; have SA := OB; have QA := PB; clear wB xB yB zB BB OB PB; clear hb hbox hg) | ((with_reducible refine gate_dst (N := 6) rfl ?_); (try (refine gate_guard (by rfl) ?_; dsimp only)); refine box_event ?hg (N := 6) ?hd (cs := #[.slice none 0 0]) (t := 29) ?hr ?_; (case hd => rfl); (case hg => rfl); (case hr => first | (go_simp; done) | (go_simp; rfl)); intro pA hg w8 hbox hb; have wB := Z5a (blk_below (g := FA) (o := .cells #[.slice iB ZA.length jB] 29 (0, 0)) Z5f hb); have xB := Z5a (blk_below (g := eA) (o := .cells #[.int .i64 GA, .int .i64 IA, .int .i64 JA, .int .i64 gA, .int .i64 KA, .int .i64 LA, .int .i64 MA, .int .i64 NA, .int .i64 OA, .bool PA] 23 (0, 0)) Z5i hb); have yB := Z5a (below_step Z5ae hb); have zB := Z5a (hbox); have BB := Z5a ((by rw [hg]; exact (below_size Z5ae) : w.heap.size ≤ pA)); have OB := Z5a ((by rw [hg]; exact (below_size Z5ae) : w.heap.size ≤ pA)); have PB := Z5a ((Z5p : FA ≠ pA)); have zC := Z5a ((Z5q : pA ≠ FA)); have AF := Z5a ((Z5x : eA ≠ pA)); have BF := Z5a ((Z5ab : pA ≠ eA)); clear kA bA HB; have kA := wB; have bA := xB; have HB := yB; have lA := zB; have DH := BB; have UE := OB; have pB := PB; have qB := zC; have dA := AF; have rA := BF; clear wB xB yB zB BB OB PB zC AF BF; clear hb hbox hg) | ((with_reducible refine gate_dst (N := 7) rfl ?_); (try (refine gate_guard (by rfl) ?_; dsimp only)); refine box_event ?hg (N := 7) ?hd (cs := #[.int .i64 0, .int .i64 0, .int .i64 0, .int .i64 0, .int .i64 0, .int .i64 0, .int .i64 0, .int .i64 0, .int .i64 0, .bool false]) (t := 23) ?hr ?_; (case hd => rfl); (case hg => rfl); (case hr => first | (go_simp; done) | (go_simp; rfl)); intro jA hg w9 hbox hb; have wB := Z5a (blk_below (g := FA) (o := .cells #[.slice iB ZA.length jB] 29 (0, 0)) Z5f hb); have xB := Z5a (blk_below (g := eA) (o := .cells #[.int .i64 GA, .int .i64 IA, .int .i64 JA, .int .i64 gA, .int .i64 KA, .int .i64 LA, .int .i64 MA, .int .i64 NA, .int .i64 OA, .bool PA] 23 (0, 0)) Z5i hb); have yB := Z5a (blk_below (g := pA) (o := .cells #[.slice none 0 0] 29 (0, 0)) Z5e hb); have zB := Z5a (below_step Z5ad hb); have BB := Z5a (hbox); have OB := Z5a ((by rw [hg]; exact (below_size Z5ad) : w.heap.size ≤ jA)); have PB := Z5a ((by rw [hg]; exact (below_size Z5ad) : w.heap.size ≤ jA)); have zC := Z5a ((Z5p : FA ≠ jA)); have AF := Z5a ((Z5q : jA ≠ FA)); have BF := Z5a ((Z5x : eA ≠ jA)); have WE := Z5a ((Z5ab : jA ≠ eA)); have XE := Z5a ((by rw [hg]; exact Nat.ne_of_lt (blk_lt (g := pA) (o := .cells #[.slice none 0 0] 29 (0, 0)) Z5e) : pA ≠ jA)); have YE := Z5a ((by rw [hg]; exact Nat.ne_of_gt (blk_lt (g := pA) (o := .cells #[.slice none 0 0] 29 (0, 0)) Z5e) : jA ≠ pA)); clear kA bA lA HB; have kA := wB; have bA := xB; have lA := yB; have HB := zB; have cA := BB; have EH := OB; have uF := PB; have rB := zC; have sB := AF; have aA := BF; have sA := WE; have CB := XE; have nB := YE; clear wB xB yB zB BB OB PB zC AF BF WE XE YE; clear hb hbox hg; have FH := QA.out; have GH := SA.out; have HH := dA.out; have IH := rA.out; have JH := aA.out; have KH := sA.out; have SB := Z5c bA.out 0 (.int .i64 GA); have TB := Z5c bA.out 1 (.int .i64 IA); have UB := Z5c bA.out 2 (.int .i64 JA); have VB := Z5c bA.out 3 (.int .i64 gA); have WB := Z5c bA.out 4 (.int .i64 KA); have XB := Z5c bA.out 5 (.int .i64 LA); have YB := Z5c bA.out 6 (.int .i64 MA); have ZB := Z5c bA.out 7 (.int .i64 NA); have aC := Z5c bA.out 8 (.int .i64 OA); have bC := Z5c bA.out 9 (.bool PA); have cC := Z5d bA.out 0; have dC := Z5d bA.out 1; have eC := Z5d bA.out 2; have fC := Z5d bA.out 3; have gC := Z5d bA.out 4; have hC := Z5d bA.out 5; have iC := Z5d bA.out 6; have jC := Z5d bA.out 7; have kC := Z5d bA.out 8; have lC := Z5d bA.out 9) | ((with_reducible refine gate_callee (f := 21) rfl ?_); refine goesL_ (some 18) rfl rfl Try.func21 (by kernel_rfl) rfl #[.int .i64 a0, .agg #[.int .i64 GA, .int .i64 IA, .int .i64 JA, .int .i64 gA, .int .i64 KA, .int .i64 LA, .int .i64 MA, .int .i64 NA, .int .i64 OA, .bool PA]] rfl Z5o ?_; (with_reducible refine (impl_LiAct.calls k a0 GA IA JA gA KA LA MA NA OA PA mB oB vB AB TF _ A4.out).mono ?_); rintro e bK ⟨rfl, hb⟩; refine ⟨_, rfl, ?_⟩; have wB := Z5a (blk_below (g := FA) (o := .cells #[.slice iB ZA.length jB] 29 (0, 0)) Z5f hb); have xB := Z5a (blk_below (g := eA) (o := .cells #[.int .i64 GA, .int .i64 IA, .int .i64 JA, .int .i64 gA, .int .i64 KA, .int .i64 LA, .int .i64 MA, .int .i64 NA, .int .i64 OA, .bool PA] 23 (0, 0)) Z5i hb); have yB := Z5a (blk_below (g := pA) (o := .cells #[.slice none 0 0] 29 (0, 0)) Z5e hb); have zB := Z5a (blk_below (g := jA) (o := .cells #[.int .i64 0, .int .i64 0, .int .i64 0, .int .i64 0, .int .i64 0, .int .i64 0, .int .i64 0, .int .i64 0, .int .i64 0, .bool false] 23 (0, 0)) Z5g hb); have BB := Z5a (below_step Z5v hb); clear kA bA lA cA HB; have kA := wB; have bA := xB; have lA := yB; have cA := zB; have HB := BB; clear wB xB yB zB BB; (try clear hb); (try clear hb2); (try clear hk); (try clear hi)) | ((with_reducible refine gate_dst (N := 9) rfl ?_); (try (refine gate_guard (by rfl) ?_; dsimp only)); refine box_event ?hg (N := 9) ?hd (cs := #[.int .i64 0, .int .i64 0, .int .i64 0, .int .i64 0]) (t := 37) ?hr ?_; (case hd => rfl); (case hg => rfl); (case hr => first | (go_simp; done) | (go_simp; rfl)); intro XA hg cK hbox hb; have wB := Z5a (blk_below (g := FA) (o := .cells #[.slice iB ZA.length jB] 29 (0, 0)) Z5f hb); have xB := Z5a (blk_below (g := eA) (o := .cells #[.int .i64 GA, .int .i64 IA, .int .i64 JA, .int .i64 gA, .int .i64 KA, .int .i64 LA, .int .i64 MA, .int .i64 NA, .int .i64 OA, .bool PA] 23 (0, 0)) Z5i hb); have yB := Z5a (blk_below (g := pA) (o := .cells #[.slice none 0 0] 29 (0, 0)) Z5e hb); have zB := Z5a (blk_below (g := jA) (o := .cells #[.int .i64 0, .int .i64 0, .int .i64 0, .int .i64 0, .int .i64 0, .int .i64 0, .int .i64 0, .int .i64 0, .int .i64 0, .bool false] 23 (0, 0)) Z5g hb); have BB := Z5a (below_step Z5v hb); have OB := Z5a (hbox); have PB := Z5a ((by rw [hg]; exact (below_size Z5v) : w.heap.size ≤ XA)); have zC := Z5a ((by rw [hg]; exact (below_size Z5v) : w.heap.size ≤ XA)); have AF := Z5a ((Z5p : FA ≠ XA)); have BF := Z5a ((Z5q : XA ≠ FA)); have WE := Z5a ((Z5x : eA ≠ XA)); have XE := Z5a ((Z5ab : XA ≠ eA)); have YE := Z5a ((by rw [hg]; exact Nat.ne_of_lt (blk_lt (g := pA) (o := .cells #[.slice none 0 0] 29 (0, 0)) Z5e) : pA ≠ XA)); have CF := Z5a ((by rw [hg]; exact Nat.ne_of_gt (blk_lt (g := pA) (o := .cells #[.slice none 0 0] 29 (0, 0)) Z5e) : XA ≠ pA)); have DF := Z5a ((Z5as : jA ≠ XA)); have EF := Z5a ((Z5at : XA ≠ jA)); clear kA bA lA cA HB; have kA := wB; have bA := xB; have lA := yB; have cA := zB; have HB := BB; have iA := OB; have LH := PB; have zF := zC; have FB := AF; have xC := BF; have RA := WE; have VA := XE; have kB := YE; have tB := CF; have lB := DF; have uB := EF; clear wB xB yB zB BB OB PB zC AF BF WE XE YE CF DF EF; clear hb hbox hg; have MH := xC.out; have NH := FB.out; have OH := VA.out; have PH := RA.out; have QH := tB.out; have RH := kB.out; have SH := uB.out; have TH := lB.out; have mC := Z5c iA.out 0 (.int .i64 0); have nC := Z5c iA.out 1 (.int .i64 0); have oC := Z5c iA.out 2 (.int .i64 0); have pC := Z5c iA.out 3 (.int .i64 0); have qC := Z5d iA.out 0; have rC := Z5d iA.out 1; have sC := Z5d iA.out 2; have tC := Z5d iA.out 3))
 (try simp only [Act.put, List.setIfInBounds_toArray, List.set_cons_zero, List.set_cons_succ])
 go_cut [31] (fun v31 wc => ∃ (kq : Nat) (vF : Bool), v31 = .bool vF ∧ Aside0 (impl_LiStep.j0 kq a0 vF ZA GA IA JA gA KA LA MA NA OA PA mB oB vB AB = some (r1, r2, r3, r4, r5, r6, r7, r8, r9, r10, r11, r12)) ∧ Aside0 (kq ≤ k) ∧ Aside0 (wc.heap[FA]? = some (.cells #[(.slice iB ZA.length jB)] 29 (0, 0))) ∧ Aside0 (wc.heap[eA]? = some (.cells #[.int .i64 GA, .int .i64 IA, .int .i64 JA, .int .i64 gA, .int .i64 KA, .int .i64 LA, .int .i64 MA, .int .i64 NA, .int .i64 OA, .bool PA] 23 (0, 0))) ∧ Aside0 (wc.heap[pA]? = some (.cells #[(.slice none 0 0)] 29 (0, 0))) ∧ Aside0 (wc.heap[jA]? = some (.cells #[.int .i64 0, .int .i64 0, .int .i64 0, .int .i64 0, .int .i64 0, .int .i64 0, .int .i64 0, .int .i64 0, .int .i64 0, .bool false] 23 (0, 0))) ∧ Aside0 (wc.heap[XA]? = some (.cells #[.int .i64 mB, .int .i64 oB, .int .i64 vB, .int .i64 AB] 37 (0, 0))) ∧ Aside0 (Below w.heap.size w wc))
 case first =>
  have H := HC5.out
  clear HC5
  by_cases c21 : TF = true
  ·subst c21
   rw [if_pos rfl] at H
   have H' := Z5a H
   clear H
   have UH := SA.out
   have VH := QA.out
   have WH := pB.out
   have XH := qB.out
   have YH := rB.out
   have ZH := sB.out
   have aI := FB.out
   have bI := xC.out
   have uC := Z5c kA.out 0 (.slice iB ZA.length jB)
   have vC := Z5d kA.out 0
   go_wp2
   go_meet
   case rel => exact ⟨_, (((ZA.length : Int) != (wrap64 (1 + (wrap64 (2 * a0)))))), Z5m, H', ⟨by first | omega | exact Nat.le_refl _⟩, ⟨Z5av⟩, ⟨Z5ar⟩, ⟨Z5au⟩, ⟨Z5aw⟩, ⟨Z5aq⟩, ⟨Z5n⟩⟩
  ·replace c21 := Bool.eq_false_iff.mpr c21
   subst c21
   rw [if_neg (show ¬ (false = true) by decide)] at H
   have H' := Z5a H
   clear H
   go_wp2
   go_meet
   case rel => exact ⟨_, (true), Z5m, H', ⟨by first | omega | exact Nat.le_refl _⟩, ⟨Z5av⟩, ⟨Z5ar⟩, ⟨Z5au⟩, ⟨Z5aw⟩, ⟨Z5aq⟩, ⟨Z5n⟩⟩
 case rest =>
  clear HC5
  (try clear c1); (try clear c2); (try clear p2); (try clear p6); (try clear c10); (try clear c11); (try clear c12); (try clear c16); (try clear c17); (try clear c18); (try clear c19); (try clear c21); (try clear c22); (try clear c23); (try clear c24); (try clear c25); (try clear c26); (try clear SB); (try clear TB); (try clear UB); (try clear VB); (try clear WB); (try clear XB); (try clear YB); (try clear ZB); (try clear aC); (try clear bC); (try clear mC); (try clear nC); (try clear oC); (try clear pC); (try clear uC); (try clear cC); (try clear dC); (try clear eC); (try clear fC); (try clear gC); (try clear hC); (try clear iC); (try clear jC); (try clear kC); (try clear lC); (try clear qC); (try clear rC); (try clear sC); (try clear tC); (try clear vC)
  obtain ⟨kq, vF, rfl, HA, HJ4, kA, bA, lA, cA, iA, HB⟩ := hcut
  cases kq with
  | zero => exact absurd HA.out (by simp [impl_LiStep.j0])
  | succ kj4 =>
   have H := HA.out
   clear HA
   simp only [impl_LiStep.j0] at H
   by_cases c27 : vF = true
   ·subst c27
    rw [if_pos rfl] at H
    simp only [Option.some.injEq, Prod.mk.injEq] at H
    obtain ⟨rfl, rfl, rfl, rfl, rfl, rfl, rfl, rfl, rfl, rfl, rfl, rfl⟩ := H
    have cI := qB.out
    have dI := pB.out
    have eI := rA.out
    have fI := dA.out
    have gI := CB.out
    have hI := nB.out
    have iI := kB.out
    have jI := tB.out
    have CC := Z5c lA.out 0 (.slice none 0 0)
    have DC := Z5d lA.out 0
    have kI := sB.out
    have lI := rB.out
    have mI := sA.out
    have nI := aA.out
    have oI := lB.out
    have pI := uB.out
    have EC := Z5c cA.out 0 (.int .i64 0)
    have FC := Z5c cA.out 1 (.int .i64 0)
    have GC := Z5c cA.out 2 (.int .i64 0)
    have HC := Z5c cA.out 3 (.int .i64 0)
    have IC := Z5c cA.out 4 (.int .i64 0)
    have JC := Z5c cA.out 5 (.int .i64 0)
    have KC := Z5c cA.out 6 (.int .i64 0)
    have LC := Z5c cA.out 7 (.int .i64 0)
    have MC := Z5c cA.out 8 (.int .i64 0)
    have NC := Z5c cA.out 9 (.bool false)
    have OC := Z5d cA.out 0
    have PC := Z5d cA.out 1
    have QC := Z5d cA.out 2
    have RC := Z5d cA.out 3
    have SC := Z5d cA.out 4
    have TC := Z5d cA.out 5
    have UC := Z5d cA.out 6
    have VC := Z5d cA.out 7
    have WC := Z5d cA.out 8
    have XC := Z5d cA.out 9
    go_wp2
    refine bodyPost_ret (results_list (rs := [.cell 6 29, .cell 7 23, .tmp 8]) rfl (by simp) (.cell pA 29 #[.slice none 0 0] (0, 0) _ rfl Z5af Try.underlying29 rfl (by kernel_rfl) (.cell jA 23 #[.int .i64 0, .int .i64 0, .int .i64 0, .int .i64 0, .int .i64 0, .int .i64 0, .int .i64 0, .int .i64 0, .int .i64 0, .bool false] (0, 0) _ rfl q5_2 Try.underlying23 rfl (by kernel_rfl) (.tmp .nil)))) rfl ?_
    exact ⟨_, by first | rfl | (simp [errW_none, errW_some] <;> rfl) | (simp [*, errW_none, errW_some] <;> rfl), by first | exact Kd.R_nil _ _ _ _ _ | exact Kd.N_nil _ _ _ _ _ | exact Kd.V_nil _ _ _ _ _ | exact Kd.Q_nil _ _ _ _ _ | exact Kd.S_nil _ _ _ _ _, Z5n⟩
   ·replace c27 := Bool.eq_false_iff.mpr c27
    subst c27
    rw [if_neg (show ¬ (false = true) by decide)] at H
    replace H := Option.bind_eq_some_iff.mp H
    obtain ⟨⟨hB, ZE, UF⟩, A370, H⟩ := H
    (try dsimp only at H)
    have A37 := Z5a A370
    clear A370
    have HC38 := Z5a H
    clear H
    have qI := SA.out
    have rI := QA.out
    have sI := pB.out
    have tI := qB.out
    have uI := rB.out
    have vI := sB.out
    have wI := FB.out
    have xI := xC.out
    have YC := Z5c kA.out 0 (.slice iB ZA.length jB)
    have ZC := Z5d kA.out 0
    have yI := VA.out
    have zI := RA.out
    have AI := tB.out
    have BI := kB.out
    have CI := uB.out
    have DI := lB.out
    have aD := Z5c iA.out 0 (.int .i64 mB)
    have bD := Z5c iA.out 1 (.int .i64 oB)
    have cD := Z5c iA.out 2 (.int .i64 vB)
    have dD := Z5c iA.out 3 (.int .i64 AB)
    have eD := Z5d iA.out 0
    have fD := Z5d iA.out 1
    have gD := Z5d iA.out 2
    have hD := Z5d iA.out 3
    go_upto_region 5 with (first | ((with_reducible refine gate_callee (f := 61) rfl ?_); refine goesL_ (some 37) rfl rfl Try.func61 (by kernel_rfl) rfl #[.agg #[.slice iB ZA.length jB], .agg #[.int .i64 mB, .int .i64 oB, .int .i64 vB, .int .i64 AB]] rfl Z5o ?_; (with_reducible refine (impl_Do.calls _ _ ZA mB oB vB AB hB ZE UF _ ?side1 ?side2 A37.out).mono ?_); (case side1 => repeat (first | exact (Kd.C_below RF.out HB.out) | (with_reducible refine Kd.C_alloc ?_ _) | (with_reducible refine Kd.C_drewN ?_ _) | (with_reducible refine Kd.C_drew ?_))); (case side2 => exact SF.out); rintro e dK ⟨WJ, rfl, ho0, hb⟩; refine ⟨_, rfl, ?_⟩; have wB := Z5a (Kd.R_lower ho0 (below_size Z5n)); have xB := Z5a (blk_below (g := FA) (o := .cells #[.slice iB ZA.length jB] 29 (0, 0)) Z5f hb); have yB := Z5a (blk_below (g := eA) (o := .cells #[.int .i64 GA, .int .i64 IA, .int .i64 JA, .int .i64 gA, .int .i64 KA, .int .i64 LA, .int .i64 MA, .int .i64 NA, .int .i64 OA, .bool PA] 23 (0, 0)) Z5i hb); have zB := Z5a (blk_below (g := pA) (o := .cells #[.slice none 0 0] 29 (0, 0)) Z5e hb); have BB := Z5a (blk_below (g := jA) (o := .cells #[.int .i64 0, .int .i64 0, .int .i64 0, .int .i64 0, .int .i64 0, .int .i64 0, .int .i64 0, .int .i64 0, .int .i64 0, .bool false] 23 (0, 0)) Z5g hb); have OB := Z5a (blk_below (g := XA) (o := .cells #[.int .i64 mB, .int .i64 oB, .int .i64 vB, .int .i64 AB] 37 (0, 0)) Z5j hb); have PB := Z5a (below_step Z5n hb); clear kA bA lA cA iA HB; have VE := wB; have kA := xB; have bA := yB; have lA := zB; have cA := BB; have iA := OB; have HB := PB; clear wB xB yB zB BB OB PB; (try clear hb); (try clear hb2); (try clear hk); (try clear hi); (try clear ho0)) | ((with_reducible refine gate_dst (N := 11) rfl ?_); (try (refine gate_guard (by rfl) ?_; dsimp only)); refine box_event ?hg (N := 11) ?hd (cs := #[.slice none 0 0]) (t := 29) ?hr ?_; (case hd => rfl); (case hg => rfl); (case hr => first | (go_simp; done) | (go_simp; rfl)); intro dB hg eK hbox hb; have wB := Z5a (Kd.R_below (by (with_reducible repeat (first | apply Kd.R_alloc | apply Kd.R_drewN | apply Kd.R_drew)); exact VE.out) hb); have xB := Z5a (blk_below (g := FA) (o := .cells #[.slice iB ZA.length jB] 29 (0, 0)) Z5f hb); have yB := Z5a (blk_below (g := eA) (o := .cells #[.int .i64 GA, .int .i64 IA, .int .i64 JA, .int .i64 gA, .int .i64 KA, .int .i64 LA, .int .i64 MA, .int .i64 NA, .int .i64 OA, .bool PA] 23 (0, 0)) Z5i hb); have zB := Z5a (blk_below (g := pA) (o := .cells #[.slice none 0 0] 29 (0, 0)) Z5e hb); have BB := Z5a (blk_below (g := jA) (o := .cells #[.int .i64 0, .int .i64 0, .int .i64 0, .int .i64 0, .int .i64 0, .int .i64 0, .int .i64 0, .int .i64 0, .int .i64 0, .bool false] 23 (0, 0)) Z5g hb); have OB := Z5a (blk_below (g := XA) (o := .cells #[.int .i64 mB, .int .i64 oB, .int .i64 vB, .int .i64 AB] 37 (0, 0)) Z5j hb); have PB := Z5a (below_step Z5n hb); have zC := Z5a (hbox); have AF := Z5a ((by rw [hg]; exact (below_size Z5n) : w.heap.size ≤ dB)); have BF := Z5a ((by rw [hg]; exact (below_size Z5n) : w.heap.size ≤ dB)); have WE := Z5a ((Z5p : FA ≠ dB)); have XE := Z5a ((Z5q : dB ≠ FA)); have YE := Z5a ((Z5x : eA ≠ dB)); have CF := Z5a ((Z5ab : dB ≠ eA)); have DF := Z5a ((by rw [hg]; exact Nat.ne_of_lt (blk_lt (g := pA) (o := .cells #[.slice none 0 0] 29 (0, 0)) Z5e) : pA ≠ dB)); have EF := Z5a ((by rw [hg]; exact Nat.ne_of_gt (blk_lt (g := pA) (o := .cells #[.slice none 0 0] 29 (0, 0)) Z5e) : dB ≠ pA)); have VF := Z5a ((Z5as : jA ≠ dB)); have WF := Z5a ((Z5at : dB ≠ jA)); have XF := Z5a ((by rw [hg]; exact Nat.ne_of_lt (blk_lt (g := XA) (o := .cells #[.int .i64 mB, .int .i64 oB, .int .i64 vB, .int .i64 AB] 37 (0, 0)) Z5j) : XA ≠ dB)); have YF := Z5a ((by rw [hg]; exact Nat.ne_of_gt (blk_lt (g := XA) (o := .cells #[.int .i64 mB, .int .i64 oB, .int .i64 vB, .int .i64 AB] 37 (0, 0)) Z5j) : dB ≠ XA)); clear VE kA bA lA cA iA HB; have VE := wB; have kA := xB; have bA := yB; have lA := zB; have cA := BB; have iA := OB; have HB := PB; have bB := zC; have EI := AF; have OF := BF; have aE := WE; have xF := XE; have UA := YE; have YA := CF; have DB := DF; have GB := EF; have EB := VF; have tA := WF; have bE := XF; have yF := YF; clear wB xB yB zB BB OB PB zC AF BF WE XE YE CF DF EF VF WF XF YF; clear hb hbox hg; obtain ⟨IB, JB, fH⟩ := Kd.R_slice VE.out; subst fH; have FI := xF.out; have GI := aE.out; have HI := YA.out; have II := UA.out; have JI := GB.out; have KI := DB.out; have LI := tA.out; have MI := EB.out; have NI := yF.out; have OI := bE.out; have iD := Z5c bB.out 0 (.slice none 0 0); have jD := Z5d bB.out 0))
    (try simp only [Act.put, List.setIfInBounds_toArray, List.set_cons_zero, List.set_cons_succ])
    go_cut [53] (fun v53 wc => ∃ (kq : Nat) (cE : Bool), v53 = .bool cE ∧ Aside0 (impl_LiStep.j1 kq ZE cE GA IA JA gA KA LA MA NA OA PA hB = some (r1, r2, r3, r4, r5, r6, r7, r8, r9, r10, r11, r12)) ∧ Aside0 (kq ≤ kj4) ∧ Aside0 (Kd.R (Kd.int .i64) 3 wc w.heap.size (fun _ => True) (.slice IB hB.length JB) hB) ∧ Aside0 (wc.heap[FA]? = some (.cells #[(.slice iB ZA.length jB)] 29 (0, 0))) ∧ Aside0 (wc.heap[eA]? = some (.cells #[.int .i64 GA, .int .i64 IA, .int .i64 JA, .int .i64 gA, .int .i64 KA, .int .i64 LA, .int .i64 MA, .int .i64 NA, .int .i64 OA, .bool PA] 23 (0, 0))) ∧ Aside0 (wc.heap[pA]? = some (.cells #[(.slice none 0 0)] 29 (0, 0))) ∧ Aside0 (wc.heap[jA]? = some (.cells #[.int .i64 0, .int .i64 0, .int .i64 0, .int .i64 0, .int .i64 0, .int .i64 0, .int .i64 0, .int .i64 0, .int .i64 0, .bool false] 23 (0, 0))) ∧ Aside0 (wc.heap[XA]? = some (.cells #[.int .i64 mB, .int .i64 oB, .int .i64 vB, .int .i64 AB] 37 (0, 0))) ∧ Aside0 (wc.heap[dB]? = some (.cells #[(.slice IB hB.length JB)] 29 (0, 0))) ∧ Aside0 (Below w.heap.size w wc))
    case first =>
     have H := HC38.out
     clear HC38
     by_cases c57 : UF = true
     ·subst c57
      rw [if_pos rfl] at H
      by_cases c58 : gA < 2
      ·rw [if_pos c58] at H
       have wC : decide (gA < 2) = true := decide_eq_true c58
       clear c58
       (first | rw [wC] | (simp only [i64_w, i32_w]; rw [wC]) | skip)
       replace H := Option.bind_eq_some_iff.mp H
       obtain ⟨NF, A590, H⟩ := H
       (try dsimp only at H)
       have A59 := Z5a A590
       clear A590
       have H' := Z5a H
       clear H
       have PI := QA.out
       have QI := SA.out
       have RI := dA.out
       have SI := rA.out
       have TI := aA.out
       have UI := sA.out
       have VI := RA.out
       have WI := VA.out
       have XI := UA.out
       have YI := YA.out
       have kD := Z5c bA.out 0 (.int .i64 GA)
       have lD := Z5c bA.out 1 (.int .i64 IA)
       have mD := Z5c bA.out 2 (.int .i64 JA)
       have nD := Z5c bA.out 3 (.int .i64 gA)
       have oD := Z5c bA.out 4 (.int .i64 KA)
       have pD := Z5c bA.out 5 (.int .i64 LA)
       have qD := Z5c bA.out 6 (.int .i64 MA)
       have rD := Z5c bA.out 7 (.int .i64 NA)
       have sD := Z5c bA.out 8 (.int .i64 OA)
       have tD := Z5c bA.out 9 (.bool PA)
       have uD := Z5d bA.out 0
       have vD := Z5d bA.out 1
       have wD := Z5d bA.out 2
       have xD := Z5d bA.out 3
       have yD := Z5d bA.out 4
       have zD := Z5d bA.out 5
       have AD := Z5d bA.out 6
       have BD := Z5d bA.out 7
       have CD := Z5d bA.out 8
       have DD := Z5d bA.out 9
       go_wp2_with (first | (go_at_call 51; (with_reducible refine (impl_isLink.calls ZE a0 NF _ A59.out).mono ?_); rintro e w' ⟨rfl, ⟨nd, rfl⟩⟩))
       go_meet
       case rel => exact ⟨_, (!NF), Z5m, H', ⟨by have := HJ4.out; first | omega | exact Nat.le_refl _⟩, ⟨Z5ak⟩, ⟨Z5aj⟩, ⟨Z5ag⟩, ⟨Z5ai⟩, ⟨Z5am⟩, ⟨Z5ao⟩, ⟨Z5ac⟩, ⟨Z5h⟩⟩
      ·rw [if_neg c58] at H
       have wC : decide (gA < 2) = false := decide_eq_false c58
       clear c58
       (first | rw [wC] | (simp only [i64_w, i32_w]; rw [wC]) | skip)
       have H' := Z5a H
       clear H
       have ZI := QA.out
       have aJ := SA.out
       have bJ := dA.out
       have cJ := rA.out
       have dJ := aA.out
       have eJ := sA.out
       have fJ := RA.out
       have gJ := VA.out
       have hJ := UA.out
       have iJ := YA.out
       have ED := Z5c bA.out 0 (.int .i64 GA)
       have FD := Z5c bA.out 1 (.int .i64 IA)
       have GD := Z5c bA.out 2 (.int .i64 JA)
       have HD := Z5c bA.out 3 (.int .i64 gA)
       have ID := Z5c bA.out 4 (.int .i64 KA)
       have JD := Z5c bA.out 5 (.int .i64 LA)
       have KD := Z5c bA.out 6 (.int .i64 MA)
       have LD := Z5c bA.out 7 (.int .i64 NA)
       have MD := Z5c bA.out 8 (.int .i64 OA)
       have ND := Z5c bA.out 9 (.bool PA)
       have OD := Z5d bA.out 0
       have PD := Z5d bA.out 1
       have QD := Z5d bA.out 2
       have RD := Z5d bA.out 3
       have SD := Z5d bA.out 4
       have TD := Z5d bA.out 5
       have UD := Z5d bA.out 6
       have VD := Z5d bA.out 7
       have WD := Z5d bA.out 8
       have XD := Z5d bA.out 9
       go_wp2
       go_meet
       case rel => exact ⟨_, (false), Z5m, H', ⟨by have := HJ4.out; first | omega | exact Nat.le_refl _⟩, ⟨Z5ak⟩, ⟨Z5aj⟩, ⟨Z5ag⟩, ⟨Z5ai⟩, ⟨Z5am⟩, ⟨Z5ao⟩, ⟨Z5ac⟩, ⟨Z5h⟩⟩
     ·replace c57 := Bool.eq_false_iff.mpr c57
      subst c57
      rw [if_neg (show ¬ (false = true) by decide)] at H
      have H' := Z5a H
      clear H
      go_wp2
      go_meet
      case rel => exact ⟨_, (true), Z5m, H', ⟨by have := HJ4.out; first | omega | exact Nat.le_refl _⟩, ⟨Z5ak⟩, ⟨Z5aj⟩, ⟨Z5ag⟩, ⟨Z5ai⟩, ⟨Z5am⟩, ⟨Z5ao⟩, ⟨Z5ac⟩, ⟨Z5h⟩⟩
    case rest =>
     clear HC38
     (try clear c1); (try clear c2); (try clear p2); (try clear c3); (try clear c4); (try clear c5); (try clear c6); (try clear p6); (try clear c7); (try clear c10); (try clear c11); (try clear c12); (try clear c16); (try clear c17); (try clear c18); (try clear c19); (try clear c21); (try clear c22); (try clear c23); (try clear c24); (try clear c25); (try clear c26); (try clear c27); (try clear c28); (try clear c29); (try clear c30); (try clear c31); (try clear c33); (try clear c34); (try clear c35); (try clear c39); (try clear c40); (try clear c41); (try clear c42); (try clear c44); (try clear c45); (try clear c46); (try clear c51); (try clear c52); (try clear c53); (try clear c54); (try clear c55); (try clear c57); (try clear c58); (try clear wC); (try clear c60); (try clear c61); (try clear c62); (try clear c63); (try clear c64); (try clear p64); (try clear c66); (try clear c67); (try clear c68); (try clear c69); (try clear c70); (try clear SB); (try clear TB); (try clear UB); (try clear VB); (try clear WB); (try clear XB); (try clear YB); (try clear ZB); (try clear aC); (try clear bC); (try clear mC); (try clear nC); (try clear oC); (try clear pC); (try clear uC); (try clear CC); (try clear EC); (try clear FC); (try clear GC); (try clear HC); (try clear IC); (try clear JC); (try clear KC); (try clear LC); (try clear MC); (try clear NC); (try clear YC); (try clear aD); (try clear bD); (try clear cD); (try clear dD); (try clear iD); (try clear kD); (try clear lD); (try clear mD); (try clear nD); (try clear oD); (try clear pD); (try clear qD); (try clear rD); (try clear sD); (try clear tD); (try clear ED); (try clear FD); (try clear GD); (try clear HD); (try clear ID); (try clear JD); (try clear KD); (try clear LD); (try clear MD); (try clear ND); (try clear cC); (try clear dC); (try clear eC); (try clear fC); (try clear gC); (try clear hC); (try clear iC); (try clear jC); (try clear kC); (try clear lC); (try clear qC); (try clear rC); (try clear sC); (try clear tC); (try clear vC); (try clear DC); (try clear OC); (try clear PC); (try clear QC); (try clear RC); (try clear SC); (try clear TC); (try clear UC); (try clear VC); (try clear WC); (try clear XC); (try clear ZC); (try clear eD); (try clear fD); (try clear gD); (try clear hD); (try clear jD); (try clear uD); (try clear vD); (try clear wD); (try clear xD); (try clear yD); (try clear zD); (try clear AD); (try clear BD); (try clear CD); (try clear DD); (try clear OD); (try clear PD); (try clear QD); (try clear RD); (try clear SD); (try clear TD); (try clear UD); (try clear VD); (try clear WD); (try clear XD); (try clear p2); (try clear p6)
     obtain ⟨kq, cE, rfl, HA, HJ37, fA, kA, bA, lA, cA, iA, bB, HB⟩ := hcut
     cases kq with
     | zero => exact absurd HA.out (by simp [impl_LiStep.j1])
     | succ kj37 =>
      have H := HA.out
      clear HA
      simp only [impl_LiStep.j1] at H
      by_cases c72 : cE = true
      ·subst c72
       rw [if_pos rfl] at H
       simp only [Option.some.injEq, Prod.mk.injEq] at H
       obtain ⟨rfl, rfl, rfl, rfl, rfl, rfl, rfl, rfl, rfl, rfl, rfl, rfl⟩ := H
       have jJ := qB.out
       have kJ := pB.out
       have lJ := rA.out
       have mJ := dA.out
       have nJ := CB.out
       have oJ := nB.out
       have pJ := kB.out
       have qJ := tB.out
       have rJ := DB.out
       have sJ := GB.out
       have dE := Z5c lA.out 0 (.slice none 0 0)
       have eE := Z5d lA.out 0
       have tJ := sB.out
       have uJ := rB.out
       have vJ := sA.out
       have wJ := aA.out
       have xJ := lB.out
       have yJ := uB.out
       have zJ := EB.out
       have AJ := tA.out
       have fE := Z5c cA.out 0 (.int .i64 0)
       have gE := Z5c cA.out 1 (.int .i64 0)
       have hE := Z5c cA.out 2 (.int .i64 0)
       have iE := Z5c cA.out 3 (.int .i64 0)
       have jE := Z5c cA.out 4 (.int .i64 0)
       have kE := Z5c cA.out 5 (.int .i64 0)
       have lE := Z5c cA.out 6 (.int .i64 0)
       have mE := Z5c cA.out 7 (.int .i64 0)
       have nE := Z5c cA.out 8 (.int .i64 0)
       have oE := Z5c cA.out 9 (.bool false)
       have pE := Z5d cA.out 0
       have qE := Z5d cA.out 1
       have rE := Z5d cA.out 2
       have sE := Z5d cA.out 3
       have tE := Z5d cA.out 4
       have uE := Z5d cA.out 5
       have vE := Z5d cA.out 6
       have wE := Z5d cA.out 7
       have xE := Z5d cA.out 8
       have yE := Z5d cA.out 9
       go_wp2
       refine bodyPost_ret (results_list (rs := [.cell 6 29, .cell 7 23, .tmp 8]) rfl (by simp) (.cell pA 29 #[.slice none 0 0] (0, 0) _ rfl Z5af Try.underlying29 rfl (by kernel_rfl) (.cell jA 23 #[.int .i64 0, .int .i64 0, .int .i64 0, .int .i64 0, .int .i64 0, .int .i64 0, .int .i64 0, .int .i64 0, .int .i64 0, .bool false] (0, 0) _ rfl q5_2 Try.underlying23 rfl (by kernel_rfl) (.tmp .nil)))) rfl ?_
       exact ⟨_, by first | rfl | (simp [errW_none, errW_some] <;> rfl) | (simp [*, errW_none, errW_some] <;> rfl), by first | exact Kd.R_nil _ _ _ _ _ | exact Kd.N_nil _ _ _ _ _ | exact Kd.V_nil _ _ _ _ _ | exact Kd.Q_nil _ _ _ _ _ | exact Kd.S_nil _ _ _ _ _, Z5h⟩
      ·replace c72 := Bool.eq_false_iff.mpr c72
       subst c72
       rw [if_neg (show ¬ (false = true) by decide)] at H
       have HC84 := Z5a H
       clear H
       have BJ := QA.out
       have CJ := SA.out
       have DJ := dA.out
       have EJ := rA.out
       have FJ := aA.out
       have GJ := sA.out
       have HJ := RA.out
       have IJ := VA.out
       have JJ := UA.out
       have KJ := YA.out
       have zE := Z5c bA.out 0 (.int .i64 GA)
       have AE := Z5c bA.out 1 (.int .i64 IA)
       have BE := Z5c bA.out 2 (.int .i64 JA)
       have CE := Z5c bA.out 3 (.int .i64 gA)
       have DE := Z5c bA.out 4 (.int .i64 KA)
       have EE := Z5c bA.out 5 (.int .i64 LA)
       have FE := Z5c bA.out 6 (.int .i64 MA)
       have GE := Z5c bA.out 7 (.int .i64 NA)
       have HE := Z5c bA.out 8 (.int .i64 OA)
       have IE := Z5c bA.out 9 (.bool PA)
       have JE := Z5d bA.out 0
       have KE := Z5d bA.out 1
       have LE := Z5d bA.out 2
       have ME := Z5d bA.out 3
       have NE := Z5d bA.out 4
       have OE := Z5d bA.out 5
       have PE := Z5d bA.out 6
       have QE := Z5d bA.out 7
       have RE := Z5d bA.out 8
       have SE := Z5d bA.out 9
       go_upto_block 0 with (fail)
       go_cut [] (fun wc => ∃ (kq : Nat) (hA : Int) (nA : Int) (oA : Int) (qA : Int) (vA : Int) (TA : Int) (WA : Int) (cB : Int) (eB : Int) (gB : Bool), Aside0 (impl_LiStep.j4 kq hA nA oA qA vA TA WA cB eB gB hB = some (r1, r2, r3, r4, r5, r6, r7, r8, r9, r10, r11, r12)) ∧ Aside0 (kq ≤ kj37) ∧ Aside0 (Kd.R (Kd.int .i64) 3 wc w.heap.size (fun _ => True) (.slice IB hB.length JB) hB) ∧ Aside0 (wc.heap[FA]? = some (.cells #[(.slice iB ZA.length jB)] 29 (0, 0))) ∧ Aside0 (wc.heap[eA]? = some (.cells #[.int .i64 hA, .int .i64 nA, .int .i64 oA, .int .i64 qA, .int .i64 vA, .int .i64 TA, .int .i64 WA, .int .i64 cB, .int .i64 eB, .bool gB] 23 (0, 0))) ∧ Aside0 (wc.heap[pA]? = some (.cells #[(.slice none 0 0)] 29 (0, 0))) ∧ Aside0 (wc.heap[jA]? = some (.cells #[.int .i64 0, .int .i64 0, .int .i64 0, .int .i64 0, .int .i64 0, .int .i64 0, .int .i64 0, .int .i64 0, .int .i64 0, .bool false] 23 (0, 0))) ∧ Aside0 (wc.heap[XA]? = some (.cells #[.int .i64 mB, .int .i64 oB, .int .i64 vB, .int .i64 AB] 37 (0, 0))) ∧ Aside0 (wc.heap[dB]? = some (.cells #[(.slice IB hB.length JB)] 29 (0, 0))) ∧ Aside0 (Below w.heap.size w wc))
       case first =>
        have H := HC84.out
        clear HC84
        by_cases c91 : gA ≤ 2
        ·rw [if_pos c91] at H
         have AC : decide (gA ≤ 2) = true := decide_eq_true c91
         clear c91
         (first | rw [AC] | (simp only [i64_w, i32_w]; rw [AC]) | skip)
         replace H := Option.bind_eq_some_iff.mp H
         obtain ⟨⟨ZF, aG, bG, cG, dG, eG, fG, gG, hG, iG⟩, A920, H⟩ := H
         (try dsimp only at H)
         have A92 := Z5a A920
         clear A920
         have H' := Z5a H
         clear H
         have uA := Z5a (show IsS23 w wc eA _ _ _ _ _ _ _ _ _ _ from ⟨bA.out, RB.out⟩)
         clear bA
         go_wp2_with (first | ((with_reducible refine gate_callee (f := 62) rfl ?_); refine goesL_ (some 67) rfl rfl Try.func62 (by kernel_rfl) rfl #[.pointer (some ⟨eA, 0, none⟩), .int .i64 gA, .int .i64 ZE] rfl Z5o ?_; (with_reducible refine (impl_Call_liRead.calls kj37 eA GA IA JA (wrap64 (gA + 1)) KA LA MA NA OA PA gA ZE ZF aG bG cG dG eG fG gG hG iG w _ ?side1 ?side2 A92.out).mono ?_); (case side1 => exact Z5t); (case side2 => exact Z5u); rintro e fK ⟨rfl, hi, hb, hk⟩; refine ⟨_, rfl, ?_⟩; have wB := Z5a (Kd.R_mono (Kd.R_keep (IsS23.apart (show IsS23 w _ eA GA IA JA (wrap64 (gA + 1)) KA LA MA NA OA PA from by repeat (first | (with_reducible first | exact uA.out | apply IsS23.alloc | apply IsS23.drewN | apply IsS23.drew | apply IsS23.set_0 | apply IsS23.set_1 | apply IsS23.set_2 | apply IsS23.set_3 | apply IsS23.set_4 | apply IsS23.set_5 | apply IsS23.set_6 | apply IsS23.set_7 | apply IsS23.set_8 | apply IsS23.set_9 | apply IsS23.far_ QA.out | apply IsS23.far_ dA.out | apply IsS23.far_ aA.out | apply IsS23.far_ RA.out | apply IsS23.far_ UA.out) | exact uA.out)) (by (with_reducible repeat (first | apply Kd.R_alloc | apply Kd.R_drewN | apply Kd.R_drew)); exact (Kd.R_mono (Kd.R_far (p := ⟨eA, 3, none⟩) (IsS23.apart uA.out fA.out (by decide)) (fun _ hk => hk.2) (.int .i64 (wrap64 (gA + 1)))) (fun _ h_ => h_.1))) (by decide)) hk (fun _ h => h.2)) (fun _ h => h.1)); have xB := Z5a (KeepBut.blk hk (g' := FA) (o := .cells #[.slice iB ZA.length jB] 29 (0, 0)) Z5z SA.out (by simp)); have yB := Z5a (KeepBut.blk hk (g' := pA) (o := .cells #[.slice none 0 0] 29 (0, 0)) Z5w rA.out (by simp)); have zB := Z5a (KeepBut.blk hk (g' := jA) (o := .cells #[.int .i64 0, .int .i64 0, .int .i64 0, .int .i64 0, .int .i64 0, .int .i64 0, .int .i64 0, .int .i64 0, .int .i64 0, .bool false] 23 (0, 0)) Z5r sA.out (by simp)); have BB := Z5a (KeepBut.blk hk (g' := XA) (o := .cells #[.int .i64 mB, .int .i64 oB, .int .i64 vB, .int .i64 AB] 37 (0, 0)) Z5aa VA.out (by simp)); have OB := Z5a (KeepBut.blk hk (g' := dB) (o := .cells #[.slice IB hB.length JB] 29 (0, 0)) Z5y YA.out (by simp)); have PB := Z5a (hb); have zC := Z5a (hi); clear fA kA lA cA iA bB HB uA; have fA := wB; have kA := xB; have lA := yB; have cA := zB; have iA := BB; have bB := OB; have HB := PB; have uA := zC; clear wB xB yB zB BB OB PB zC; have bA := Z5a uA.out.1; clear uA; (try clear hb); (try clear hb2); (try clear hk); (try clear hi)))
         go_meet
         case rel => exact ⟨_, (ZF), (aG), (bG), (cG), (dG), (eG), (fG), (gG), (hG), (iG), H', ⟨by have := HJ4.out; have := HJ37.out; first | omega | exact Nat.le_refl _⟩, ⟨Z5k⟩, ⟨Z5f⟩, ⟨Z5i⟩, ⟨Z5e⟩, ⟨Z5g⟩, ⟨Z5j⟩, ⟨Z5l⟩, ⟨Z5h⟩⟩
        ·rw [if_neg c91] at H
         have AC : decide (gA ≤ 2) = false := decide_eq_false c91
         clear c91
         (first | rw [AC] | (simp only [i64_w, i32_w]; rw [AC]) | skip)
         have HC94 := Z5a H
         clear H
         go_upto_region 11 with (fail)
         go_cut [68] (fun v68 wc => ∃ (kq : Nat) (TE : Bool), v68 = .bool TE ∧ Aside0 (impl_LiStep.j2 kq ZE gA TE GA IA JA (wrap64 (gA + 1)) KA LA MA NA OA PA hB = some (r1, r2, r3, r4, r5, r6, r7, r8, r9, r10, r11, r12)) ∧ Aside0 (kq ≤ kj37) ∧ Aside0 (Kd.R (Kd.int .i64) 3 wc w.heap.size (fun _ => True) (.slice IB hB.length JB) hB) ∧ Aside0 (wc.heap[FA]? = some (.cells #[(.slice iB ZA.length jB)] 29 (0, 0))) ∧ Aside0 (wc.heap[eA]? = some (.cells #[.int .i64 GA, .int .i64 IA, .int .i64 JA, .int .i64 (wrap64 (gA + 1)), .int .i64 KA, .int .i64 LA, .int .i64 MA, .int .i64 NA, .int .i64 OA, .bool PA] 23 (0, 0))) ∧ Aside0 (wc.heap[pA]? = some (.cells #[(.slice none 0 0)] 29 (0, 0))) ∧ Aside0 (wc.heap[jA]? = some (.cells #[.int .i64 0, .int .i64 0, .int .i64 0, .int .i64 0, .int .i64 0, .int .i64 0, .int .i64 0, .int .i64 0, .int .i64 0, .bool false] 23 (0, 0))) ∧ Aside0 (wc.heap[XA]? = some (.cells #[.int .i64 mB, .int .i64 oB, .int .i64 vB, .int .i64 AB] 37 (0, 0))) ∧ Aside0 (wc.heap[dB]? = some (.cells #[(.slice IB hB.length JB)] 29 (0, 0))) ∧ Aside0 (Below w.heap.size w wc))
         case first =>
          have H := HC94.out
          clear HC94
          by_cases c95 : gA = 3
          ·rw [if_pos c95] at H
           have BC : (gA == 3) = true := beq_iff_eq.mpr c95
           have wF : (gA != 3) = false := bne_eq_false_iff_eq.mpr c95
           clear c95
           (first | rw [BC] | (simp only [i64_w, i32_w]; rw [BC]) | skip)
           have H' := Z5a H
           clear H
           go_wp2
           go_meet
           case rel => exact ⟨_, ((ZE == 0)), Z5m, H', ⟨by have := HJ4.out; have := HJ37.out; first | omega | exact Nat.le_refl _⟩, ⟨Z5ax⟩, ⟨Z5z⟩, ⟨Z5ap⟩, ⟨Z5w⟩, ⟨Z5r⟩, ⟨Z5aa⟩, ⟨Z5y⟩, ⟨Z5h⟩⟩
          ·rw [if_neg c95] at H
           have BC : (gA == 3) = false := beq_eq_false_iff_ne.mpr c95
           have wF : (gA != 3) = true := bne_iff_ne.mpr c95
           (first | rw [BC] | (simp only [i64_w, i32_w]; rw [BC]) | skip)
           have H' := Z5a H
           clear H
           go_wp2
           go_meet
           case rel => exact ⟨_, (false), Z5m, H', ⟨by have := HJ4.out; have := HJ37.out; first | omega | exact Nat.le_refl _⟩, ⟨Z5ax⟩, ⟨Z5z⟩, ⟨Z5ap⟩, ⟨Z5w⟩, ⟨Z5r⟩, ⟨Z5aa⟩, ⟨Z5y⟩, ⟨Z5h⟩⟩
         case rest =>
          clear HC94
          (try clear c1); (try clear c2); (try clear p2); (try clear c3); (try clear c4); (try clear c5); (try clear c6); (try clear p6); (try clear c7); (try clear c8); (try clear c9); (try clear c10); (try clear c11); (try clear c12); (try clear c16); (try clear c17); (try clear c18); (try clear c19); (try clear c21); (try clear c22); (try clear c23); (try clear c24); (try clear c25); (try clear c26); (try clear c27); (try clear c28); (try clear c29); (try clear c30); (try clear c31); (try clear c33); (try clear c34); (try clear c35); (try clear c39); (try clear c40); (try clear c41); (try clear c42); (try clear c44); (try clear c45); (try clear c46); (try clear c51); (try clear c52); (try clear c53); (try clear c54); (try clear c55); (try clear c57); (try clear c58); (try clear wC); (try clear c60); (try clear c61); (try clear c62); (try clear c63); (try clear c64); (try clear p64); (try clear c66); (try clear c67); (try clear c68); (try clear c69); (try clear c70); (try clear c72); (try clear c73); (try clear c74); (try clear c75); (try clear c76); (try clear c77); (try clear c79); (try clear c80); (try clear c81); (try clear c82); (try clear c85); (try clear c86); (try clear c87); (try clear c88); (try clear c89); (try clear c91); (try clear AC); (try clear c95); (try clear BC); (try clear wF); (try clear SB); (try clear TB); (try clear UB); (try clear VB); (try clear WB); (try clear XB); (try clear YB); (try clear ZB); (try clear aC); (try clear bC); (try clear mC); (try clear nC); (try clear oC); (try clear pC); (try clear uC); (try clear CC); (try clear EC); (try clear FC); (try clear GC); (try clear HC); (try clear IC); (try clear JC); (try clear KC); (try clear LC); (try clear MC); (try clear NC); (try clear YC); (try clear aD); (try clear bD); (try clear cD); (try clear dD); (try clear iD); (try clear kD); (try clear lD); (try clear mD); (try clear nD); (try clear oD); (try clear pD); (try clear qD); (try clear rD); (try clear sD); (try clear tD); (try clear ED); (try clear FD); (try clear GD); (try clear HD); (try clear ID); (try clear JD); (try clear KD); (try clear LD); (try clear MD); (try clear ND); (try clear dE); (try clear fE); (try clear gE); (try clear hE); (try clear iE); (try clear jE); (try clear kE); (try clear lE); (try clear mE); (try clear nE); (try clear oE); (try clear zE); (try clear AE); (try clear BE); (try clear CE); (try clear DE); (try clear EE); (try clear FE); (try clear GE); (try clear HE); (try clear IE); (try clear cC); (try clear dC); (try clear eC); (try clear fC); (try clear gC); (try clear hC); (try clear iC); (try clear jC); (try clear kC); (try clear lC); (try clear qC); (try clear rC); (try clear sC); (try clear tC); (try clear vC); (try clear DC); (try clear OC); (try clear PC); (try clear QC); (try clear RC); (try clear SC); (try clear TC); (try clear UC); (try clear VC); (try clear WC); (try clear XC); (try clear ZC); (try clear eD); (try clear fD); (try clear gD); (try clear hD); (try clear jD); (try clear uD); (try clear vD); (try clear wD); (try clear xD); (try clear yD); (try clear zD); (try clear AD); (try clear BD); (try clear CD); (try clear DD); (try clear OD); (try clear PD); (try clear QD); (try clear RD); (try clear SD); (try clear TD); (try clear UD); (try clear VD); (try clear WD); (try clear XD); (try clear eE); (try clear pE); (try clear qE); (try clear rE); (try clear sE); (try clear tE); (try clear uE); (try clear vE); (try clear wE); (try clear xE); (try clear yE); (try clear JE); (try clear KE); (try clear LE); (try clear ME); (try clear NE); (try clear OE); (try clear PE); (try clear QE); (try clear RE); (try clear SE); (try clear p2); (try clear p6); (try clear p64)
          obtain ⟨kq, TE, rfl, HA, HJ93, fA, kA, bA, lA, cA, iA, bB, HB⟩ := hcut
          cases kq with
          | zero => exact absurd HA.out (by simp [impl_LiStep.j2])
          | succ kj93 =>
           have H := HA.out
           clear HA
           simp only [impl_LiStep.j2] at H
           by_cases c96 : TE = true
           ·subst c96
            rw [if_pos rfl] at H
            replace H := Option.bind_eq_some_iff.mp H
            obtain ⟨⟨jG, kG, lG, mG, nG, oG, pG, qG, rG, sG⟩, A970, H⟩ := H
            (try dsimp only at H)
            have A97 := Z5a A970
            clear A970
            have H' := Z5a H
            clear H
            have uA := Z5a (show IsS23 w wc eA _ _ _ _ _ _ _ _ _ _ from ⟨bA.out, RB.out⟩)
            clear bA
            go_wp2_with (first | ((with_reducible refine gate_callee (f := 63) rfl ?_); refine goesL_ (some 75) rfl rfl Try.func63 (by kernel_rfl) rfl #[.pointer (some ⟨eA, 0, none⟩)] rfl Z5o ?_; (with_reducible refine (impl_Call_again.calls eA GA IA JA (wrap64 (gA + 1)) KA LA MA NA OA PA jG kG lG mG nG oG pG qG rG sG w _ ?side1 ?side2 A97.out).mono ?_); (case side1 => exact Z5t); (case side2 => exact Z5u); rintro e gK ⟨rfl, hi, hb, hk⟩; refine ⟨_, rfl, ?_⟩; have wB := Z5a (Kd.R_mono (Kd.R_keep (IsS23.apart (show IsS23 w _ eA GA IA JA (wrap64 (gA + 1)) KA LA MA NA OA PA from by repeat (first | (with_reducible first | exact uA.out | apply IsS23.alloc | apply IsS23.drewN | apply IsS23.drew | apply IsS23.set_0 | apply IsS23.set_1 | apply IsS23.set_2 | apply IsS23.set_3 | apply IsS23.set_4 | apply IsS23.set_5 | apply IsS23.set_6 | apply IsS23.set_7 | apply IsS23.set_8 | apply IsS23.set_9 | apply IsS23.far_ QA.out | apply IsS23.far_ dA.out | apply IsS23.far_ aA.out | apply IsS23.far_ RA.out | apply IsS23.far_ UA.out) | exact uA.out)) Z5k (by decide)) hk (fun _ h => h.2)) (fun _ h => h.1)); have xB := Z5a (KeepBut.blk hk (g' := FA) (o := .cells #[.slice iB ZA.length jB] 29 (0, 0)) Z5f SA.out (by simp)); have yB := Z5a (KeepBut.blk hk (g' := pA) (o := .cells #[.slice none 0 0] 29 (0, 0)) Z5e rA.out (by simp)); have zB := Z5a (KeepBut.blk hk (g' := jA) (o := .cells #[.int .i64 0, .int .i64 0, .int .i64 0, .int .i64 0, .int .i64 0, .int .i64 0, .int .i64 0, .int .i64 0, .int .i64 0, .bool false] 23 (0, 0)) Z5g sA.out (by simp)); have BB := Z5a (KeepBut.blk hk (g' := XA) (o := .cells #[.int .i64 mB, .int .i64 oB, .int .i64 vB, .int .i64 AB] 37 (0, 0)) Z5j VA.out (by simp)); have OB := Z5a (KeepBut.blk hk (g' := dB) (o := .cells #[.slice IB hB.length JB] 29 (0, 0)) Z5l YA.out (by simp)); have PB := Z5a (hb); have zC := Z5a (hi); clear fA kA lA cA iA bB HB uA; have fA := wB; have kA := xB; have lA := yB; have cA := zB; have iA := BB; have bB := OB; have HB := PB; have uA := zC; clear wB xB yB zB BB OB PB zC; have bA := Z5a uA.out.1; clear uA; (try clear hb); (try clear hb2); (try clear hk); (try clear hi)))
            go_meet
            case rel => exact ⟨_, (jG), (kG), (lG), (mG), (nG), (oG), (pG), (qG), (rG), (sG), H', ⟨Z5s⟩, ⟨Z5k⟩, ⟨Z5f⟩, ⟨Z5i⟩, ⟨Z5e⟩, ⟨Z5g⟩, ⟨Z5j⟩, ⟨Z5l⟩, ⟨Z5h⟩⟩
           ·replace c96 := Bool.eq_false_iff.mpr c96
            subst c96
            rw [if_neg (show ¬ (false = true) by decide)] at H
            by_cases c99 : gA = 3
            ·rw [if_pos c99] at H
             have FF : (gA == 3) = true := beq_iff_eq.mpr c99
             have GF : (gA != 3) = false := bne_eq_false_iff_eq.mpr c99
             clear c99
             have H' := Z5a H
             clear H
             have gH := QA.out
             have hH := SA.out
             have iH := dA.out
             have jH := rA.out
             have kH := aA.out
             have lH := sA.out
             have mH := RA.out
             have nH := VA.out
             have oH := UA.out
             have pH := YA.out
             have aF := Z5c bA.out 0 (.int .i64 GA)
             have bF := Z5c bA.out 1 (.int .i64 IA)
             have cF := Z5c bA.out 2 (.int .i64 JA)
             have dF := Z5c bA.out 3 (.int .i64 (wrap64 (gA + 1)))
             have eF := Z5c bA.out 4 (.int .i64 KA)
             have fF := Z5c bA.out 5 (.int .i64 LA)
             have gF := Z5c bA.out 6 (.int .i64 MA)
             have hF := Z5c bA.out 7 (.int .i64 NA)
             have iF := Z5c bA.out 8 (.int .i64 OA)
             have jF := Z5c bA.out 9 (.bool PA)
             have kF := Z5d bA.out 0
             have lF := Z5d bA.out 1
             have mF := Z5d bA.out 2
             have nF := Z5d bA.out 3
             have oF := Z5d bA.out 4
             have pF := Z5d bA.out 5
             have qF := Z5d bA.out 6
             have rF := Z5d bA.out 7
             have sF := Z5d bA.out 8
             have tF := Z5d bA.out 9
             go_wp2
             go_meet
             case rel => exact ⟨_, (GA), (IA), (JA), (0), (KA), (LA), (MA), (NA), (OA), (PA), H', ⟨Z5s⟩, ⟨by (with_reducible repeat (first | apply Kd.R_alloc | apply Kd.R_drewN | apply Kd.R_drew)); exact Kd.R_mono (Kd.R_far (p := ⟨eA, 3, none⟩) (Kd.R_types fA.out bA.out (by decide)) (fun _ hk => hk.2) (.int .i64 0)) (fun _ hk => trivial)⟩, ⟨Z5z⟩, ⟨by (with_reducible repeat (first | refine blk_drewN ?_ _ | refine blk_drew ?_ | refine blk_alloc ?_ _)); refine blk_put (cs := #[.int .i64 GA, .int .i64 IA, .int .i64 JA, .int .i64 (wrap64 (gA + 1)), .int .i64 KA, .int .i64 LA, .int .i64 MA, .int .i64 NA, .int .i64 OA, .bool PA]) ?_ 3 _ rfl; (with_reducible repeat (first | refine blk_drewN ?_ _ | refine blk_drew ?_ | refine blk_alloc ?_ _)); exact bA.out⟩, ⟨Z5w⟩, ⟨Z5r⟩, ⟨Z5aa⟩, ⟨Z5y⟩, ⟨Z5h⟩⟩
            ·rw [if_neg c99] at H
             have FF : (gA == 3) = false := beq_eq_false_iff_ne.mpr c99
             have GF : (gA != 3) = true := bne_iff_ne.mpr c99
             have HC106 := Z5a H
             clear H
             go_upto_region 15 with (fail)
             go_cut [80] (fun v80 wc => ∃ (kq : Nat) (YD : Bool), v80 = .bool YD ∧ Aside0 (impl_LiStep.j3 kq gA YD GA IA JA (wrap64 (gA + 1)) KA LA MA NA OA PA hB = some (r1, r2, r3, r4, r5, r6, r7, r8, r9, r10, r11, r12)) ∧ Aside0 (kq ≤ kj93) ∧ Aside0 (Kd.R (Kd.int .i64) 3 wc w.heap.size (fun _ => True) (.slice IB hB.length JB) hB) ∧ Aside0 (wc.heap[FA]? = some (.cells #[(.slice iB ZA.length jB)] 29 (0, 0))) ∧ Aside0 (wc.heap[eA]? = some (.cells #[.int .i64 GA, .int .i64 IA, .int .i64 JA, .int .i64 (wrap64 (gA + 1)), .int .i64 KA, .int .i64 LA, .int .i64 MA, .int .i64 NA, .int .i64 OA, .bool PA] 23 (0, 0))) ∧ Aside0 (wc.heap[pA]? = some (.cells #[(.slice none 0 0)] 29 (0, 0))) ∧ Aside0 (wc.heap[jA]? = some (.cells #[.int .i64 0, .int .i64 0, .int .i64 0, .int .i64 0, .int .i64 0, .int .i64 0, .int .i64 0, .int .i64 0, .int .i64 0, .bool false] 23 (0, 0))) ∧ Aside0 (wc.heap[XA]? = some (.cells #[.int .i64 mB, .int .i64 oB, .int .i64 vB, .int .i64 AB] 37 (0, 0))) ∧ Aside0 (wc.heap[dB]? = some (.cells #[(.slice IB hB.length JB)] 29 (0, 0))) ∧ Aside0 (Below w.heap.size w wc))
             case first =>
              have H := HC106.out
              clear HC106
              by_cases c107 : gA ≥ 6
              ·rw [if_pos c107] at H
               have QB : decide (6 ≤ gA) = true := decide_eq_true c107
               clear c107
               (first | rw [QB] | (simp only [i64_w, i32_w]; rw [QB]) | skip)
               have H' := Z5a H
               clear H
               go_wp2
               go_meet
               case rel => exact ⟨_, ((ZE == 1)), Z5m, H', ⟨Z5s⟩, ⟨Z5k⟩, ⟨Z5f⟩, ⟨Z5i⟩, ⟨Z5e⟩, ⟨Z5g⟩, ⟨Z5j⟩, ⟨Z5l⟩, ⟨Z5h⟩⟩
              ·rw [if_neg c107] at H
               have QB : decide (6 ≤ gA) = false := decide_eq_false c107
               clear c107
               (first | rw [QB] | (simp only [i64_w, i32_w]; rw [QB]) | skip)
               have H' := Z5a H
               clear H
               go_wp2
               go_meet
               case rel => exact ⟨_, (false), Z5m, H', ⟨Z5s⟩, ⟨Z5k⟩, ⟨Z5f⟩, ⟨Z5i⟩, ⟨Z5e⟩, ⟨Z5g⟩, ⟨Z5j⟩, ⟨Z5l⟩, ⟨Z5h⟩⟩
             case rest =>
              clear HC106
              (try clear c1); (try clear c2); (try clear p2); (try clear c3); (try clear c4); (try clear c5); (try clear c6); (try clear p6); (try clear c7); (try clear c8); (try clear c9); (try clear c10); (try clear c11); (try clear c12); (try clear c16); (try clear c17); (try clear c18); (try clear c19); (try clear c21); (try clear c22); (try clear c23); (try clear c24); (try clear c25); (try clear c26); (try clear c27); (try clear c28); (try clear c29); (try clear c30); (try clear c31); (try clear c33); (try clear c34); (try clear c35); (try clear c39); (try clear c40); (try clear c41); (try clear c42); (try clear c44); (try clear c45); (try clear c46); (try clear c51); (try clear c52); (try clear c53); (try clear c54); (try clear c55); (try clear c57); (try clear c58); (try clear wC); (try clear c60); (try clear c61); (try clear c62); (try clear c63); (try clear c64); (try clear p64); (try clear c66); (try clear c67); (try clear c68); (try clear c69); (try clear c70); (try clear c72); (try clear c73); (try clear c74); (try clear c75); (try clear c76); (try clear c77); (try clear c79); (try clear c80); (try clear c81); (try clear c82); (try clear c85); (try clear c86); (try clear c87); (try clear c88); (try clear c89); (try clear c91); (try clear AC); (try clear c95); (try clear BC); (try clear wF); (try clear c96); (try clear c99); (try clear FF); (try clear GF); (try clear c100); (try clear c101); (try clear c102); (try clear c103); (try clear c104); (try clear c107); (try clear QB); (try clear aF); (try clear bF); (try clear cF); (try clear dF); (try clear eF); (try clear fF); (try clear gF); (try clear hF); (try clear iF); (try clear jF); (try clear SB); (try clear TB); (try clear UB); (try clear VB); (try clear WB); (try clear XB); (try clear YB); (try clear ZB); (try clear aC); (try clear bC); (try clear mC); (try clear nC); (try clear oC); (try clear pC); (try clear uC); (try clear CC); (try clear EC); (try clear FC); (try clear GC); (try clear HC); (try clear IC); (try clear JC); (try clear KC); (try clear LC); (try clear MC); (try clear NC); (try clear YC); (try clear aD); (try clear bD); (try clear cD); (try clear dD); (try clear iD); (try clear kD); (try clear lD); (try clear mD); (try clear nD); (try clear oD); (try clear pD); (try clear qD); (try clear rD); (try clear sD); (try clear tD); (try clear ED); (try clear FD); (try clear GD); (try clear HD); (try clear ID); (try clear JD); (try clear KD); (try clear LD); (try clear MD); (try clear ND); (try clear dE); (try clear fE); (try clear gE); (try clear hE); (try clear iE); (try clear jE); (try clear kE); (try clear lE); (try clear mE); (try clear nE); (try clear oE); (try clear zE); (try clear AE); (try clear BE); (try clear CE); (try clear DE); (try clear EE); (try clear FE); (try clear GE); (try clear HE); (try clear IE); (try clear kF); (try clear lF); (try clear mF); (try clear nF); (try clear oF); (try clear pF); (try clear qF); (try clear rF); (try clear sF); (try clear tF); (try clear cC); (try clear dC); (try clear eC); (try clear fC); (try clear gC); (try clear hC); (try clear iC); (try clear jC); (try clear kC); (try clear lC); (try clear qC); (try clear rC); (try clear sC); (try clear tC); (try clear vC); (try clear DC); (try clear OC); (try clear PC); (try clear QC); (try clear RC); (try clear SC); (try clear TC); (try clear UC); (try clear VC); (try clear WC); (try clear XC); (try clear ZC); (try clear eD); (try clear fD); (try clear gD); (try clear hD); (try clear jD); (try clear uD); (try clear vD); (try clear wD); (try clear xD); (try clear yD); (try clear zD); (try clear AD); (try clear BD); (try clear CD); (try clear DD); (try clear OD); (try clear PD); (try clear QD); (try clear RD); (try clear SD); (try clear TD); (try clear UD); (try clear VD); (try clear WD); (try clear XD); (try clear eE); (try clear pE); (try clear qE); (try clear rE); (try clear sE); (try clear tE); (try clear uE); (try clear vE); (try clear wE); (try clear xE); (try clear yE); (try clear JE); (try clear KE); (try clear LE); (try clear ME); (try clear NE); (try clear OE); (try clear PE); (try clear QE); (try clear RE); (try clear SE); (try clear p2); (try clear p6); (try clear p64)
              obtain ⟨kq, YD, rfl, HA, HJ105, fA, kA, bA, lA, cA, iA, bB, HB⟩ := hcut
              cases kq with
              | zero => exact absurd HA.out (by simp [impl_LiStep.j3])
              | succ kj105 =>
               have H := HA.out
               clear HA
               simp only [impl_LiStep.j3] at H
               by_cases c108 : YD = true
               ·subst c108
                rw [if_pos rfl] at H
                replace H := Option.bind_eq_some_iff.mp H
                obtain ⟨⟨tG, uG, vG, wG, xG, yG, zG, AG, BG, CG⟩, A1090, H⟩ := H
                (try dsimp only at H)
                have A109 := Z5a A1090
                clear A1090
                have H' := Z5a H
                clear H
                have uA := Z5a (show IsS23 w wc eA _ _ _ _ _ _ _ _ _ _ from ⟨bA.out, RB.out⟩)
                clear bA
                go_wp2_with (first | ((with_reducible refine gate_callee (f := 64) rfl ?_); refine goesL_ (some 87) rfl rfl Try.func64 (by kernel_rfl) rfl #[.pointer (some ⟨eA, 0, none⟩), .int .i64 1] rfl Z5o ?_; (with_reducible refine (impl_Call_end.calls eA GA IA JA (wrap64 (gA + 1)) KA LA MA NA OA PA 1 tG uG vG wG xG yG zG AG BG CG w _ ?side1 ?side2 A109.out).mono ?_); (case side1 => exact Z5t); (case side2 => exact Z5u); rintro e XJ ⟨rfl, hi, hb, hk⟩; refine ⟨_, rfl, ?_⟩; have wB := Z5a (Kd.R_mono (Kd.R_keep (IsS23.apart (show IsS23 w _ eA GA IA JA (wrap64 (gA + 1)) KA LA MA NA OA PA from by repeat (first | (with_reducible first | exact uA.out | apply IsS23.alloc | apply IsS23.drewN | apply IsS23.drew | apply IsS23.set_0 | apply IsS23.set_1 | apply IsS23.set_2 | apply IsS23.set_3 | apply IsS23.set_4 | apply IsS23.set_5 | apply IsS23.set_6 | apply IsS23.set_7 | apply IsS23.set_8 | apply IsS23.set_9 | apply IsS23.far_ QA.out | apply IsS23.far_ dA.out | apply IsS23.far_ aA.out | apply IsS23.far_ RA.out | apply IsS23.far_ UA.out) | exact uA.out)) Z5k (by decide)) hk (fun _ h => h.2)) (fun _ h => h.1)); have xB := Z5a (KeepBut.blk hk (g' := FA) (o := .cells #[.slice iB ZA.length jB] 29 (0, 0)) Z5f SA.out (by simp)); have yB := Z5a (KeepBut.blk hk (g' := pA) (o := .cells #[.slice none 0 0] 29 (0, 0)) Z5e rA.out (by simp)); have zB := Z5a (KeepBut.blk hk (g' := jA) (o := .cells #[.int .i64 0, .int .i64 0, .int .i64 0, .int .i64 0, .int .i64 0, .int .i64 0, .int .i64 0, .int .i64 0, .int .i64 0, .bool false] 23 (0, 0)) Z5g sA.out (by simp)); have BB := Z5a (KeepBut.blk hk (g' := XA) (o := .cells #[.int .i64 mB, .int .i64 oB, .int .i64 vB, .int .i64 AB] 37 (0, 0)) Z5j VA.out (by simp)); have OB := Z5a (KeepBut.blk hk (g' := dB) (o := .cells #[.slice IB hB.length JB] 29 (0, 0)) Z5l YA.out (by simp)); have PB := Z5a (hb); have zC := Z5a (hi); clear fA kA lA cA iA bB HB uA; have fA := wB; have kA := xB; have lA := yB; have cA := zB; have iA := BB; have bB := OB; have HB := PB; have uA := zC; clear wB xB yB zB BB OB PB zC; have bA := Z5a uA.out.1; clear uA; (try clear hb); (try clear hb2); (try clear hk); (try clear hi)))
                go_meet
                case rel => exact ⟨_, (tG), (uG), (vG), (wG), (xG), (yG), (zG), (AG), (BG), (CG), H', ⟨Z5ah⟩, ⟨Z5k⟩, ⟨Z5f⟩, ⟨Z5i⟩, ⟨Z5e⟩, ⟨Z5g⟩, ⟨Z5j⟩, ⟨Z5l⟩, ⟨Z5h⟩⟩
               ·replace c108 := Bool.eq_false_iff.mpr c108
                subst c108
                rw [if_neg (show ¬ (false = true) by decide)] at H
                by_cases c111 : gA ≥ 6
                ·rw [if_pos c111] at H
                 have HF : decide (6 ≤ gA) = true := decide_eq_true c111
                 clear c111
                 replace H := Option.bind_eq_some_iff.mp H
                 obtain ⟨⟨DG, EG, FG, GG, HG, IG, JG, KG, LG, MG⟩, A1120, H⟩ := H
                 (try dsimp only at H)
                 have A112 := Z5a A1120
                 clear A1120
                 have H' := Z5a H
                 clear H
                 have uA := Z5a (show IsS23 w wc eA _ _ _ _ _ _ _ _ _ _ from ⟨bA.out, RB.out⟩)
                 clear bA
                 go_wp2_with (first | ((with_reducible refine gate_callee (f := 63) rfl ?_); refine goesL_ (some 91) rfl rfl Try.func63 (by kernel_rfl) rfl #[.pointer (some ⟨eA, 0, none⟩)] rfl Z5o ?_; (with_reducible refine (impl_Call_again.calls eA GA IA JA (wrap64 (gA + 1)) KA LA MA NA OA PA DG EG FG GG HG IG JG KG LG MG w _ ?side1 ?side2 A112.out).mono ?_); (case side1 => exact Z5t); (case side2 => exact Z5u); rintro e YJ ⟨rfl, hi, hb, hk⟩; refine ⟨_, rfl, ?_⟩; have wB := Z5a (Kd.R_mono (Kd.R_keep (IsS23.apart (show IsS23 w _ eA GA IA JA (wrap64 (gA + 1)) KA LA MA NA OA PA from by repeat (first | (with_reducible first | exact uA.out | apply IsS23.alloc | apply IsS23.drewN | apply IsS23.drew | apply IsS23.set_0 | apply IsS23.set_1 | apply IsS23.set_2 | apply IsS23.set_3 | apply IsS23.set_4 | apply IsS23.set_5 | apply IsS23.set_6 | apply IsS23.set_7 | apply IsS23.set_8 | apply IsS23.set_9 | apply IsS23.far_ QA.out | apply IsS23.far_ dA.out | apply IsS23.far_ aA.out | apply IsS23.far_ RA.out | apply IsS23.far_ UA.out) | exact uA.out)) Z5k (by decide)) hk (fun _ h => h.2)) (fun _ h => h.1)); have xB := Z5a (KeepBut.blk hk (g' := FA) (o := .cells #[.slice iB ZA.length jB] 29 (0, 0)) Z5f SA.out (by simp)); have yB := Z5a (KeepBut.blk hk (g' := pA) (o := .cells #[.slice none 0 0] 29 (0, 0)) Z5e rA.out (by simp)); have zB := Z5a (KeepBut.blk hk (g' := jA) (o := .cells #[.int .i64 0, .int .i64 0, .int .i64 0, .int .i64 0, .int .i64 0, .int .i64 0, .int .i64 0, .int .i64 0, .int .i64 0, .bool false] 23 (0, 0)) Z5g sA.out (by simp)); have BB := Z5a (KeepBut.blk hk (g' := XA) (o := .cells #[.int .i64 mB, .int .i64 oB, .int .i64 vB, .int .i64 AB] 37 (0, 0)) Z5j VA.out (by simp)); have OB := Z5a (KeepBut.blk hk (g' := dB) (o := .cells #[.slice IB hB.length JB] 29 (0, 0)) Z5l YA.out (by simp)); have PB := Z5a (hb); have zC := Z5a (hi); clear fA kA lA cA iA bB HB uA; have fA := wB; have kA := xB; have lA := yB; have cA := zB; have iA := BB; have bB := OB; have HB := PB; have uA := zC; clear wB xB yB zB BB OB PB zC; have bA := Z5a uA.out.1; clear uA; (try clear hb); (try clear hb2); (try clear hk); (try clear hi)))
                 go_meet
                 case rel => exact ⟨_, (DG), (EG), (FG), (GG), (HG), (IG), (JG), (KG), (LG), (MG), H', ⟨Z5ah⟩, ⟨Z5k⟩, ⟨Z5f⟩, ⟨Z5i⟩, ⟨Z5e⟩, ⟨Z5g⟩, ⟨Z5j⟩, ⟨Z5l⟩, ⟨Z5h⟩⟩
                ·rw [if_neg c111] at H
                 have HF : decide (6 ≤ gA) = false := decide_eq_false c111
                 clear c111
                 have H' := Z5a H
                 clear H
                 go_wp2
                 go_meet
                 case rel => exact ⟨_, (GA), (IA), (JA), ((wrap64 (gA + 1))), (KA), (LA), (MA), (NA), (OA), (PA), H', ⟨Z5ah⟩, ⟨Z5k⟩, ⟨Z5f⟩, ⟨Z5i⟩, ⟨Z5e⟩, ⟨Z5g⟩, ⟨Z5j⟩, ⟨Z5l⟩, ⟨Z5h⟩⟩
       case rest =>
        clear HC84
        (try clear c1); (try clear c2); (try clear p2); (try clear c3); (try clear c4); (try clear c5); (try clear c6); (try clear p6); (try clear c7); (try clear c8); (try clear c9); (try clear c10); (try clear c11); (try clear c12); (try clear c16); (try clear c17); (try clear c18); (try clear c19); (try clear c21); (try clear c22); (try clear c23); (try clear c24); (try clear c25); (try clear c26); (try clear c27); (try clear c28); (try clear c29); (try clear c30); (try clear c31); (try clear c33); (try clear c34); (try clear c35); (try clear c39); (try clear c40); (try clear c41); (try clear c42); (try clear c44); (try clear c45); (try clear c46); (try clear c51); (try clear c52); (try clear c53); (try clear c54); (try clear c55); (try clear c57); (try clear c58); (try clear wC); (try clear c60); (try clear c61); (try clear c62); (try clear c63); (try clear c64); (try clear p64); (try clear c66); (try clear c67); (try clear c68); (try clear c69); (try clear c70); (try clear c72); (try clear c73); (try clear c74); (try clear c75); (try clear c76); (try clear c77); (try clear c79); (try clear c80); (try clear c81); (try clear c82); (try clear c85); (try clear c86); (try clear c87); (try clear c88); (try clear c89); (try clear c91); (try clear AC); (try clear c95); (try clear BC); (try clear wF); (try clear c96); (try clear c99); (try clear FF); (try clear GF); (try clear c100); (try clear c101); (try clear c102); (try clear c103); (try clear c104); (try clear c107); (try clear QB); (try clear c108); (try clear c111); (try clear HF); (try clear aF); (try clear bF); (try clear cF); (try clear dF); (try clear eF); (try clear fF); (try clear gF); (try clear hF); (try clear iF); (try clear jF); (try clear SB); (try clear TB); (try clear UB); (try clear VB); (try clear WB); (try clear XB); (try clear YB); (try clear ZB); (try clear aC); (try clear bC); (try clear mC); (try clear nC); (try clear oC); (try clear pC); (try clear uC); (try clear CC); (try clear EC); (try clear FC); (try clear GC); (try clear HC); (try clear IC); (try clear JC); (try clear KC); (try clear LC); (try clear MC); (try clear NC); (try clear YC); (try clear aD); (try clear bD); (try clear cD); (try clear dD); (try clear iD); (try clear kD); (try clear lD); (try clear mD); (try clear nD); (try clear oD); (try clear pD); (try clear qD); (try clear rD); (try clear sD); (try clear tD); (try clear ED); (try clear FD); (try clear GD); (try clear HD); (try clear ID); (try clear JD); (try clear KD); (try clear LD); (try clear MD); (try clear ND); (try clear dE); (try clear fE); (try clear gE); (try clear hE); (try clear iE); (try clear jE); (try clear kE); (try clear lE); (try clear mE); (try clear nE); (try clear oE); (try clear zE); (try clear AE); (try clear BE); (try clear CE); (try clear DE); (try clear EE); (try clear FE); (try clear GE); (try clear HE); (try clear IE); (try clear kF); (try clear lF); (try clear mF); (try clear nF); (try clear oF); (try clear pF); (try clear qF); (try clear rF); (try clear sF); (try clear tF); (try clear cC); (try clear dC); (try clear eC); (try clear fC); (try clear gC); (try clear hC); (try clear iC); (try clear jC); (try clear kC); (try clear lC); (try clear qC); (try clear rC); (try clear sC); (try clear tC); (try clear vC); (try clear DC); (try clear OC); (try clear PC); (try clear QC); (try clear RC); (try clear SC); (try clear TC); (try clear UC); (try clear VC); (try clear WC); (try clear XC); (try clear ZC); (try clear eD); (try clear fD); (try clear gD); (try clear hD); (try clear jD); (try clear uD); (try clear vD); (try clear wD); (try clear xD); (try clear yD); (try clear zD); (try clear AD); (try clear BD); (try clear CD); (try clear DD); (try clear OD); (try clear PD); (try clear QD); (try clear RD); (try clear SD); (try clear TD); (try clear UD); (try clear VD); (try clear WD); (try clear XD); (try clear eE); (try clear pE); (try clear qE); (try clear rE); (try clear sE); (try clear tE); (try clear uE); (try clear vE); (try clear wE); (try clear xE); (try clear yE); (try clear JE); (try clear KE); (try clear LE); (try clear ME); (try clear NE); (try clear OE); (try clear PE); (try clear QE); (try clear RE); (try clear SE); (try clear p2); (try clear p6); (try clear p64)
        obtain ⟨kq, hA, nA, oA, qA, vA, TA, WA, cB, eB, gB, HA, HJ83, fA, kA, bA, lA, cA, iA, bB, HB⟩ := hcut
        cases kq with
        | zero => exact absurd HA.out (by simp [impl_LiStep.j4])
        | succ kj83 =>
         have H := HA.out
         clear HA
         simp only [impl_LiStep.j4] at H
         simp only [Option.some.injEq, Prod.mk.injEq] at H
         obtain ⟨rfl, rfl, rfl, rfl, rfl, rfl, rfl, rfl, rfl, rfl, rfl, rfl⟩ := H
         try go_wp2
         have wB := Z5a (Kd.R_drew fA.out)
         have xB := Z5a (blk_drew kA.out)
         have yB := Z5a (blk_drew bA.out)
         have zB := Z5a (blk_drew lA.out)
         have BB := Z5a (blk_drew cA.out)
         have OB := Z5a (blk_drew iA.out)
         have PB := Z5a (blk_drew bB.out)
         have zC := Z5a (below_drew1 HB.out)
         clear fA kA bA lA cA iA bB HB
         have fA := wB
         have kA := xB
         have bA := yB
         have lA := zB
         have cA := BB
         have iA := OB
         have bB := PB
         have HB := zC
         clear wB xB yB zB BB OB PB zC
         refine start_ (n := 5) (S := fun w' => w'.cell? ⟨dB, 0, none⟩ = some (.slice IB hB.length JB) ∧ w'.cell? ⟨eA, 0, none⟩ = some (.int .i64 hA) ∧ w'.cell? ⟨eA, 1, none⟩ = some (.int .i64 nA) ∧ w'.cell? ⟨eA, 2, none⟩ = some (.int .i64 oA) ∧ w'.cell? ⟨eA, 3, none⟩ = some (.int .i64 qA) ∧ w'.cell? ⟨eA, 4, none⟩ = some (.int .i64 vA) ∧ w'.cell? ⟨eA, 5, none⟩ = some (.int .i64 TA) ∧ w'.cell? ⟨eA, 6, none⟩ = some (.int .i64 WA) ∧ w'.cell? ⟨eA, 7, none⟩ = some (.int .i64 cB) ∧ w'.cell? ⟨eA, 8, none⟩ = some (.int .i64 eB) ∧ w'.cell? ⟨eA, 9, none⟩ = some (.bool gB)) (ds := []) #[F,F,F,F,F] (by kernel_rfl) rfl rfl ⟨(blk_cell bB.out 0).trans rfl, (blk_cell bA.out 0).trans rfl, (blk_cell bA.out 1).trans rfl, (blk_cell bA.out 2).trans rfl, (blk_cell bA.out 3).trans rfl, (blk_cell bA.out 4).trans rfl, (blk_cell bA.out 5).trans rfl, (blk_cell bA.out 6).trans rfl, (blk_cell bA.out 7).trans rfl, (blk_cell bA.out 8).trans rfl, (blk_cell bA.out 9).trans rfl⟩ (fun hHeld => ?_)
         generalize wc.drew = ZJ at fA kA bA lA cA iA bB HB hHeld ⊢
         refine take_ (i := 0) (N := some 92) (v := ?_) (a' := ?_) #[T,F,F,F,F] rfl rfl (by kernel_rfl) (fun _ _ _ h => h) (Or.inl ⟨by rfl, ?_⟩) hHeld ?_ ?_
         rotate_left
         ·rintro w' ⟨s0, s1, s2, s3, s4, s5, s6, s7, s8, s9, aK⟩
          go_simp
          with_reducible rfl
         rotate_left
         ·simp only [Act.put, List.setIfInBounds_toArray, List.set_cons_zero, List.set_cons_succ, i64_w, i32_w]
          rfl
         refine take_ (i := 1) (N := some 93) (v := ?_) (a' := ?_) #[T,T,F,F,F] rfl rfl (by kernel_rfl) (fun _ _ _ h => h) (Or.inl ⟨by rfl, ?_⟩) hHeld ?_ ?_
         rotate_left
         ·rintro w' ⟨s0, s1, s2, s3, s4, s5, s6, s7, s8, s9, aK⟩
          go_simp
          with_reducible rfl
         rotate_left
         ·simp only [Act.put, List.setIfInBounds_toArray, List.set_cons_zero, List.set_cons_succ, i64_w, i32_w]
          rfl
         refine one_ (i := 2) (N := none) #[T,T,T,F,F] rfl rfl (by kernel_rfl) (by decide) (fun K hK => ?_)
         have LJ := Z5c lA.out 0 (.slice none 0 0)
         have qH := Z5d lA.out 0
         have NG := pB.out
         have OG := dA.out
         have PG := nB.out
         have QG := tB.out
         have RG := GB.out
         have SG := qB.out
         have TG := rA.out
         have UG := CB.out
         have VG := kB.out
         have WG := DB.out
         refine skip_ (w1 := ?_) (by rfl) rfl ?_ ?_
         rotate_left
         ·go_simp
          rfl
         refine hK.out _ _ ⟨((Z5b GB.out).trans (hHeld.1)), ((Z5b dA.out).trans (hHeld.2.1)), ((Z5b dA.out).trans (hHeld.2.2.1)), ((Z5b dA.out).trans (hHeld.2.2.2.1)), ((Z5b dA.out).trans (hHeld.2.2.2.2.1)), ((Z5b dA.out).trans (hHeld.2.2.2.2.2.1)), ((Z5b dA.out).trans (hHeld.2.2.2.2.2.2.1)), ((Z5b dA.out).trans (hHeld.2.2.2.2.2.2.2.1)), ((Z5b dA.out).trans (hHeld.2.2.2.2.2.2.2.2.1)), ((Z5b dA.out).trans (hHeld.2.2.2.2.2.2.2.2.2.1)), ((Z5b dA.out).trans (hHeld.2.2.2.2.2.2.2.2.2.2))⟩ (fun hHeld => ?_)
         clear hK K
         refine one_ (i := 3) (N := none) #[T,T,T,T,F] rfl rfl (by kernel_rfl) (by decide) (fun K hK => ?_)
         have MJ := Z5c cA.out 0 (.int .i64 0)
         have rH := Z5d cA.out 0
         have XG := rB.out
         have YG := aA.out
         have ZG := uB.out
         have aH := tA.out
         have bH := sB.out
         have cH := sA.out
         have dH := lB.out
         have eH := EB.out
         have NJ := Z5c cA.out 1 (.int .i64 0)
         have sH := Z5d cA.out 1
         have OJ := Z5c cA.out 2 (.int .i64 0)
         have tH := Z5d cA.out 2
         have PJ := Z5c cA.out 3 (.int .i64 0)
         have uH := Z5d cA.out 3
         have QJ := Z5c cA.out 4 (.int .i64 0)
         have vH := Z5d cA.out 4
         have RJ := Z5c cA.out 5 (.int .i64 0)
         have wH := Z5d cA.out 5
         have SJ := Z5c cA.out 6 (.int .i64 0)
         have xH := Z5d cA.out 6
         have TJ := Z5c cA.out 7 (.int .i64 0)
         have yH := Z5d cA.out 7
         have UJ := Z5c cA.out 8 (.int .i64 0)
         have zH := Z5d cA.out 8
         have VJ := Z5c cA.out 9 (.bool false)
         have AH := Z5d cA.out 9
         refine skip_ (w1 := ?_) (by rfl) rfl ?_ ?_
         rotate_left
         ·go_simp
          rfl
         refine hK.out _ _ ⟨((Z5b tA.out).trans (((Z5b tA.out).trans (((Z5b tA.out).trans (((Z5b tA.out).trans (((Z5b tA.out).trans (((Z5b tA.out).trans (((Z5b tA.out).trans (((Z5b tA.out).trans (((Z5b tA.out).trans (((Z5b tA.out).trans (hHeld.1)))))))))))))))))))), ((Z5b aA.out).trans (((Z5b aA.out).trans (((Z5b aA.out).trans (((Z5b aA.out).trans (((Z5b aA.out).trans (((Z5b aA.out).trans (((Z5b aA.out).trans (((Z5b aA.out).trans (((Z5b aA.out).trans (((Z5b aA.out).trans (hHeld.2.1)))))))))))))))))))), ((Z5b aA.out).trans (((Z5b aA.out).trans (((Z5b aA.out).trans (((Z5b aA.out).trans (((Z5b aA.out).trans (((Z5b aA.out).trans (((Z5b aA.out).trans (((Z5b aA.out).trans (((Z5b aA.out).trans (((Z5b aA.out).trans (hHeld.2.2.1)))))))))))))))))))), ((Z5b aA.out).trans (((Z5b aA.out).trans (((Z5b aA.out).trans (((Z5b aA.out).trans (((Z5b aA.out).trans (((Z5b aA.out).trans (((Z5b aA.out).trans (((Z5b aA.out).trans (((Z5b aA.out).trans (((Z5b aA.out).trans (hHeld.2.2.2.1)))))))))))))))))))), ((Z5b aA.out).trans (((Z5b aA.out).trans (((Z5b aA.out).trans (((Z5b aA.out).trans (((Z5b aA.out).trans (((Z5b aA.out).trans (((Z5b aA.out).trans (((Z5b aA.out).trans (((Z5b aA.out).trans (((Z5b aA.out).trans (hHeld.2.2.2.2.1)))))))))))))))))))), ((Z5b aA.out).trans (((Z5b aA.out).trans (((Z5b aA.out).trans (((Z5b aA.out).trans (((Z5b aA.out).trans (((Z5b aA.out).trans (((Z5b aA.out).trans (((Z5b aA.out).trans (((Z5b aA.out).trans (((Z5b aA.out).trans (hHeld.2.2.2.2.2.1)))))))))))))))))))), ((Z5b aA.out).trans (((Z5b aA.out).trans (((Z5b aA.out).trans (((Z5b aA.out).trans (((Z5b aA.out).trans (((Z5b aA.out).trans (((Z5b aA.out).trans (((Z5b aA.out).trans (((Z5b aA.out).trans (((Z5b aA.out).trans (hHeld.2.2.2.2.2.2.1)))))))))))))))))))), ((Z5b aA.out).trans (((Z5b aA.out).trans (((Z5b aA.out).trans (((Z5b aA.out).trans (((Z5b aA.out).trans (((Z5b aA.out).trans (((Z5b aA.out).trans (((Z5b aA.out).trans (((Z5b aA.out).trans (((Z5b aA.out).trans (hHeld.2.2.2.2.2.2.2.1)))))))))))))))))))), ((Z5b aA.out).trans (((Z5b aA.out).trans (((Z5b aA.out).trans (((Z5b aA.out).trans (((Z5b aA.out).trans (((Z5b aA.out).trans (((Z5b aA.out).trans (((Z5b aA.out).trans (((Z5b aA.out).trans (((Z5b aA.out).trans (hHeld.2.2.2.2.2.2.2.2.1)))))))))))))))))))), ((Z5b aA.out).trans (((Z5b aA.out).trans (((Z5b aA.out).trans (((Z5b aA.out).trans (((Z5b aA.out).trans (((Z5b aA.out).trans (((Z5b aA.out).trans (((Z5b aA.out).trans (((Z5b aA.out).trans (((Z5b aA.out).trans (hHeld.2.2.2.2.2.2.2.2.2.1)))))))))))))))))))), ((Z5b aA.out).trans (((Z5b aA.out).trans (((Z5b aA.out).trans (((Z5b aA.out).trans (((Z5b aA.out).trans (((Z5b aA.out).trans (((Z5b aA.out).trans (((Z5b aA.out).trans (((Z5b aA.out).trans (((Z5b aA.out).trans (hHeld.2.2.2.2.2.2.2.2.2.2))))))))))))))))))))⟩ (fun hHeld => ?_)
         clear hK K
         refine pure_ (i := 4) (N := some 8) (v := ?_) (a' := ?_) #[T,T,T,T,T] rfl rfl (by kernel_rfl) (fun _ _ _ h => h) (Or.inl ⟨by rfl, ?_⟩) ?_ ?_
         rotate_left
         ·intro w'
          go_simp
          with_reducible rfl
         rotate_left
         ·simp only [Act.put, List.setIfInBounds_toArray, List.set_cons_zero, List.set_cons_succ, i64_w, i32_w]
          rfl
         refine done_ (by kernel_rfl) ?_
         try go_wp2
         refine bodyPost_ret (results_list (rs := [.cell 6 29, .cell 7 23, .tmp 8]) rfl (by simp) (.cell pA 29 #[.slice IB hB.length JB] (0, 0) _ rfl Z5af Try.underlying29 rfl (by kernel_rfl) (.cell jA 23 #[.int .i64 hA, .int .i64 nA, .int .i64 oA, .int .i64 qA, .int .i64 vA, .int .i64 TA, .int .i64 WA, .int .i64 cB, .int .i64 eB, .bool gB] (0, 0) _ rfl (by (with_reducible repeat (first | refine blk_drewN ?_ _ | refine blk_drew ?_ | refine blk_alloc ?_ _)); refine blk_put (cs := #[.int .i64 hA, .int .i64 nA, .int .i64 oA, .int .i64 qA, .int .i64 vA, .int .i64 TA, .int .i64 WA, .int .i64 cB, .int .i64 eB, .bool false]) ?_ 9 _ rfl; (with_reducible repeat (first | refine blk_drewN ?_ _ | refine blk_drew ?_ | refine blk_alloc ?_ _)); refine blk_put (cs := #[.int .i64 hA, .int .i64 nA, .int .i64 oA, .int .i64 qA, .int .i64 vA, .int .i64 TA, .int .i64 WA, .int .i64 cB, .int .i64 0, .bool false]) ?_ 8 _ rfl; (with_reducible repeat (first | refine blk_drewN ?_ _ | refine blk_drew ?_ | refine blk_alloc ?_ _)); refine blk_put (cs := #[.int .i64 hA, .int .i64 nA, .int .i64 oA, .int .i64 qA, .int .i64 vA, .int .i64 TA, .int .i64 WA, .int .i64 0, .int .i64 0, .bool false]) ?_ 7 _ rfl; (with_reducible repeat (first | refine blk_drewN ?_ _ | refine blk_drew ?_ | refine blk_alloc ?_ _)); refine blk_put (cs := #[.int .i64 hA, .int .i64 nA, .int .i64 oA, .int .i64 qA, .int .i64 vA, .int .i64 TA, .int .i64 0, .int .i64 0, .int .i64 0, .bool false]) ?_ 6 _ rfl; (with_reducible repeat (first | refine blk_drewN ?_ _ | refine blk_drew ?_ | refine blk_alloc ?_ _)); refine blk_put (cs := #[.int .i64 hA, .int .i64 nA, .int .i64 oA, .int .i64 qA, .int .i64 vA, .int .i64 0, .int .i64 0, .int .i64 0, .int .i64 0, .bool false]) ?_ 5 _ rfl; (with_reducible repeat (first | refine blk_drewN ?_ _ | refine blk_drew ?_ | refine blk_alloc ?_ _)); refine blk_put (cs := #[.int .i64 hA, .int .i64 nA, .int .i64 oA, .int .i64 qA, .int .i64 0, .int .i64 0, .int .i64 0, .int .i64 0, .int .i64 0, .bool false]) ?_ 4 _ rfl; (with_reducible repeat (first | refine blk_drewN ?_ _ | refine blk_drew ?_ | refine blk_alloc ?_ _)); refine blk_put (cs := #[.int .i64 hA, .int .i64 nA, .int .i64 oA, .int .i64 0, .int .i64 0, .int .i64 0, .int .i64 0, .int .i64 0, .int .i64 0, .bool false]) ?_ 3 _ rfl; (with_reducible repeat (first | refine blk_drewN ?_ _ | refine blk_drew ?_ | refine blk_alloc ?_ _)); refine blk_put (cs := #[.int .i64 hA, .int .i64 nA, .int .i64 0, .int .i64 0, .int .i64 0, .int .i64 0, .int .i64 0, .int .i64 0, .int .i64 0, .bool false]) ?_ 2 _ rfl; (with_reducible repeat (first | refine blk_drewN ?_ _ | refine blk_drew ?_ | refine blk_alloc ?_ _)); refine blk_put (cs := #[.int .i64 hA, .int .i64 0, .int .i64 0, .int .i64 0, .int .i64 0, .int .i64 0, .int .i64 0, .int .i64 0, .int .i64 0, .bool false]) ?_ 1 _ rfl; (with_reducible repeat (first | refine blk_drewN ?_ _ | refine blk_drew ?_ | refine blk_alloc ?_ _)); refine blk_put (cs := #[.int .i64 0, .int .i64 0, .int .i64 0, .int .i64 0, .int .i64 0, .int .i64 0, .int .i64 0, .int .i64 0, .int .i64 0, .bool false]) ?_ 0 _ rfl; (with_reducible repeat (first | refine blk_drewN ?_ _ | refine blk_drew ?_ | refine blk_alloc ?_ _)); refine blk_far ?_ nB.out _; (with_reducible repeat (first | refine blk_drewN ?_ _ | refine blk_drew ?_ | refine blk_alloc ?_ _)); exact cA.out) Try.underlying23 rfl (by kernel_rfl) (.tmp .nil)))) rfl ?_
         exact ⟨_, by first | rfl | (simp [errW_none, errW_some] <;> rfl) | (simp [*, errW_none, errW_some] <;> rfl), by (with_reducible repeat (first | apply Kd.R_alloc | apply Kd.R_drewN | apply Kd.R_drew)); exact Kd.R_mono (Kd.R_far (p := ⟨jA, 9, none⟩) (Kd.R_far (p := ⟨jA, 8, none⟩) (Kd.R_far (p := ⟨jA, 7, none⟩) (Kd.R_far (p := ⟨jA, 6, none⟩) (Kd.R_far (p := ⟨jA, 5, none⟩) (Kd.R_far (p := ⟨jA, 4, none⟩) (Kd.R_far (p := ⟨jA, 3, none⟩) (Kd.R_far (p := ⟨jA, 2, none⟩) (Kd.R_far (p := ⟨jA, 1, none⟩) (Kd.R_far (p := ⟨jA, 0, none⟩) (Kd.R_far (p := ⟨pA, 0, none⟩) (Kd.R_types (Kd.R_types fA.out lA.out (by decide)) cA.out (by decide)) (fun _ hk => hk.1.2) (.slice IB hB.length JB)) (fun _ hk => hk.2) (.int .i64 hA)) (fun _ hk => hk.2) (.int .i64 nA)) (fun _ hk => hk.2) (.int .i64 oA)) (fun _ hk => hk.2) (.int .i64 qA)) (fun _ hk => hk.2) (.int .i64 vA)) (fun _ hk => hk.2) (.int .i64 TA)) (fun _ hk => hk.2) (.int .i64 WA)) (fun _ hk => hk.2) (.int .i64 cB)) (fun _ hk => hk.2) (.int .i64 eB)) (fun _ hk => hk.2) (.bool gB)) (fun _ hk => trivial), Z5h⟩

end Go.Proofs.Ytjikobdblohphaa.PFnListOne
