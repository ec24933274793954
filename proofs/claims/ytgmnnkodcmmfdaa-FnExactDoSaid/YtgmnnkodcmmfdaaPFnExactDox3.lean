-- Written by the session's own patched copy of the printer (wip/patch_print.py).
import Derived.Test.YtgmnnkodcmmfdaaPFnExactDox0
import Derived.Test.YtgmnnkodcmmfdaaPFnExactDox1
import Derived.Test.YtgmnnkodcmmfdaaPFnExactDox2
namespace Go.Proofs.Ytgmnnkodcmmfdaa.PFnExactDo
open Go.RowKit Go.Proofs.YtgmnnkodcmmfdaaW.PrintWords Go.Proofs.YtgmnnkodcmmfdaaW.PrintLast Go.Proofs.YtgmnnkodcmmfdaaW.PrintMore
attribute [local go_sem] max2_int min2_int max_two min_two max_three min_three max_four min_four   -- for this text's walks alone
set_option linter.unusedVariables false
set_option linter.unusedSimpArgs false

theorem q3_p {P : Program} {ops : Array Oper} {Q : Exit → Act → World → Prop} {md : Region.Mode} {S : World → Prop} {ds : List Nat} (i n : Nat) {oi : Oper} {v : Value} {fuel : Nat} {l : Array Bool} {a : Act} {w : World} (l' : Array Bool) {a' : Act} (h : wpAnyLast P md ops Q S ds fuel l' a' w) (hi : ops[i]? = some oi := by rfl) (hN : oi.dst = some n := by rfl) (hc : anyB md ops l l' i = true := by exact any_of HT_.out (by kernel_rfl)) (hQ : ∀ c a w, Q (.panic c) (a.put oi.dst v) w → Q (.panic c) a w := by exact fun _ _ _ h => h) (hy : Yields P ops oi v a := by refine Or.inl ⟨by rfl, ?_⟩; intro w'; go_simp; with_reducible rfl) (ha : a.put (some n) v = a' := by simp only [Act.put, List.setIfInBounds_toArray, List.set_cons_zero, List.set_cons_succ, i64_w, i32_w]; rfl) : wpAnyLast P md ops Q S ds (fuel + 1) l a w := pure_ (N := some n) l' hi hN hc hQ hy ha h
theorem q3_u {P : Program} {ops : Array Oper} {Q : Exit → Act → World → Prop} {md : Region.Mode} {S : World → Prop} {ds : List Nat} (i n : Nat) {oi : Oper} {fuel : Nat} {l : Array Bool} {a : Act} {w : World} (l' : Array Bool) {a' : Act} (h : wpAnyLast P md ops Q S ds fuel l' a' w) (hi : ops[i]? = some oi := by rfl) (hN : oi.dst = some n := by rfl) (hc : anyB md ops l l' i = true := by exact any_of HT_.out (by kernel_rfl)) (hQ : ∀ c a w, Q (.panic c) (a.put oi.dst undef) w → Q (.panic c) a w := by exact fun _ _ _ h => h) (hy : Yields P ops oi undef a := by exact Or.inr ⟨by rfl, rfl⟩) (ha : a.put (some n) undef = a' := by simp only [Act.put, List.setIfInBounds_toArray, List.set_cons_zero, List.set_cons_succ, i64_w, i32_w]; rfl) : wpAnyLast P md ops Q S ds (fuel + 1) l a w := pure_ (N := some n) l' hi hN hc hQ hy ha h
open Bool renaming true → T, false → F
theorem q3_0 {p : Prop} (h : p := by repeat (first | (with_reducible first | exact HB.out | apply below_alloc | apply pw_below_drewN | apply below_drew1 | refine below_set ?_ GE175.out | refine below_set ?_ GE176.out | refine below_set ?_ GE190.out | refine below_set ?_ GE194.out | refine below_set ?_ GE204.out) | exact HB.out)) : p := h
theorem q3_1 {p : Prop} (h : p := by (with_reducible repeat (first | refine blk_drewN ?_ _ | refine blk_drew ?_ | refine blk_alloc ?_ _)); exact BK175.out) : p := h
theorem q3_2 {p : Prop} (h : p := by (with_reducible repeat (first | refine blk_drewN ?_ _ | refine blk_drew ?_ | refine blk_alloc ?_ _)); exact BK176.out) : p := h
theorem q3_3 {p : Prop} (h : p := by (with_reducible repeat (first | refine blk_drewN ?_ _ | refine blk_drew ?_ | refine blk_alloc ?_ _)); exact BK190.out) : p := h
theorem q3_4 {p : Prop} (h : p := by repeat (first | (with_reducible first | exact HB.out | apply below_alloc | apply pw_below_drewN | apply below_drew1 | refine below_set ?_ GE175.out | refine below_set ?_ GE176.out | refine below_set ?_ GE190.out | refine below_set ?_ GE194.out | refine below_set ?_ GE204.out | refine below_set ?_ GE228.out) | exact HB.out)) : p := h
theorem q3_5 {p : Prop} (h : p := by (with_reducible repeat (first | refine blk_drewN ?_ _ | refine blk_drew ?_ | refine blk_alloc ?_ _)); exact BK194.out) : p := h
theorem q3_6 {p : Prop} (h : p := by (with_reducible repeat (first | refine blk_drewN ?_ _ | refine blk_drew ?_ | refine blk_alloc ?_ _)); exact BK204.out) : p := h
theorem q3_7 {p : Prop} (h : p := by (try simp only [List.map_toArray, List.map_cons, List.map_nil]); first | done | rfl | (simp only [List.length_drop, List.length_take]; rfl)) : p := h
theorem q3_8 {p : Prop} (h : p := by repeat (first | (with_reducible first | exact HB.out | apply below_alloc | apply pw_below_drewN | apply below_drew1 | refine below_set ?_ GE175.out | refine below_set ?_ GE176.out | refine below_set ?_ GE190.out) | exact HB.out)) : p := h
theorem q3_9 {p : Prop} (h : p := by repeat (first | (with_reducible first | exact HB.out | apply below_alloc | apply pw_below_drewN | apply below_drew1 | refine below_set ?_ GE175.out | refine below_set ?_ GE176.out) | exact HB.out)) : p := h
theorem q3_10 {p : Prop} (h : p := by (with_reducible repeat (first | apply Kd.R_alloc | apply Kd.R_drewN | apply Kd.R_drew)); exact HO_191000.out) : p := h
theorem q3_11 {p : Prop} (h : p := by (with_reducible repeat (first | apply Kd.R_alloc | apply Kd.R_drewN | apply Kd.R_drew)); exact HO_195000.out) : p := h
theorem q3_12 {p : Prop} (h : p := by (with_reducible repeat (first | apply Kd.R_alloc | apply Kd.R_drewN | apply Kd.R_drew)); exact HO_205000.out) : p := h
theorem q3_13 {p : Prop} (h : p := by repeat (first | (with_reducible first | exact HB.out | apply below_alloc | apply pw_below_drewN | apply below_drew1 | refine below_set ?_ GE175.out | refine below_set ?_ GE176.out | refine below_set ?_ GE190.out | refine below_set ?_ GE194.out) | exact HB.out)) : p := h
theorem q3_14 {p : Prop} (h : p := by (with_reducible repeat (first | apply Kd.R_alloc | apply Kd.R_drewN | apply Kd.R_drew)); exact HO180.out) : p := h
theorem q3_15 {p : Prop} (h : p := by rw [hg]; exact Nat.ne_of_lt (blk_lt (g := gb176) (o := .cells #[.int .i64 a1_0, .int .i64 a1_1, .int .i64 a1_2, .int .i64 a1_3] 33 (0, 0)) q3_2)) : p := h
theorem q3_16 {p : Prop} (h : p := by rw [hg]; exact Nat.ne_of_gt (blk_lt (g := gb176) (o := .cells #[.int .i64 a1_0, .int .i64 a1_1, .int .i64 a1_2, .int .i64 a1_3] 33 (0, 0)) q3_2)) : p := h
theorem q3_17 {p : Prop} (h : p := by rw [hg]; exact Nat.ne_of_lt (blk_lt (g := gb175) (o := .cells #[.slice A0_0 l0_0.length c0_0] 31 (0, 0)) q3_1)) : p := h
theorem q3_18 {p : Prop} (h : p := by rw [hg]; exact Nat.ne_of_gt (blk_lt (g := gb175) (o := .cells #[.slice A0_0 l0_0.length c0_0] 31 (0, 0)) q3_1)) : p := h
theorem q3_19 {p : Prop} (h : p := by repeat (first | exact (Kd.R_reads' HO_205000.out).2.2 | (with_reducible refine Kd.C_alloc ?_ _) | (with_reducible refine Kd.C_drewN ?_ _) | (with_reducible refine Kd.C_drew ?_))) : p := h
theorem q3_20 {p : Prop} (h : p := by (with_reducible repeat (first | refine blk_drewN ?_ _ | refine blk_drew ?_ | refine blk_alloc ?_ _)); exact BK228.out) : p := h
theorem q3_21 {p : Prop} (h : p := by (with_reducible repeat (first | apply Kd.R_alloc | apply Kd.R_drewN | apply Kd.R_drew)); exact HO218.out) : p := h
theorem q3_22 {p : Prop} (h : p := by (with_reducible repeat (first | apply Kd.R_alloc | apply Kd.R_drewN | apply Kd.R_drew)); exact (Kd.R_mono (Kd.R_far (p := ⟨gb228, 0, none⟩) (Kd.R_types HO_191000.out BK228.out (by decide)) (fun _ hk => hk.2) (.slice Ao163 t223.length co163)) (fun _ h_ => h_.1))) : p := h
theorem q3_23 {p : Prop} (h : p := by (with_reducible repeat (first | apply Kd.R_alloc | apply Kd.R_drewN | apply Kd.R_drew)); exact (Kd.R_mono (Kd.R_far (p := ⟨gb228, 0, none⟩) (Kd.R_types HO225.out BK228.out (by decide)) (fun _ hk => hk.2) (.slice Ao163 t223.length co163)) (fun _ h_ => h_.1))) : p := h
theorem q3_24 {p : Prop} (h : p := by (with_reducible repeat (first | apply Kd.R_alloc | apply Kd.R_drewN | apply Kd.R_drew)); exact (Kd.R_mono (Kd.R_far (p := ⟨gb204, 0, none⟩) (Kd.R_types HO201.out BK204.out (by decide)) (fun _ hk => hk.2) (.slice Ao46 t199.length co46)) (fun _ h_ => h_.1))) : p := h
theorem q3_25 {p : Prop} (h : p := by (with_reducible repeat (first | apply Kd.R_alloc | apply Kd.R_drewN | apply Kd.R_drew)); exact (Kd.R_mono (Kd.R_far (p := ⟨gb204, 0, none⟩) (Kd.R_types HO187.out BK204.out (by decide)) (fun _ hk => hk.2) (.slice Ao46 t199.length co46)) (fun _ h_ => h_.1))) : p := h
theorem q3_26 {p : Prop} (h : p := by (with_reducible repeat (first | apply Kd.R_alloc | apply Kd.R_drewN | apply Kd.R_drew)); exact HO187.out) : p := h
theorem q3_27 {p : Prop} (h : p := by repeat (first | exact (Kd.C_below HR0_0.out HB.out) | (with_reducible refine Kd.C_alloc ?_ _) | (with_reducible refine Kd.C_drewN ?_ _) | (with_reducible refine Kd.C_drew ?_))) : p := h
theorem q3_28 {p : Prop} (h : p := by (with_reducible repeat (first | apply Kd.R_alloc | apply Kd.R_drewN | apply Kd.R_drew)); exact HO193.out) : p := h
theorem q3_29 {p : Prop} (h : p := by simp only [putAll, Act.put, List.setIfInBounds_toArray, List.set_cons_zero, List.set_cons_succ]) : p := h
theorem q3_30 {p : Prop} (h : p := by kernel_rfl) : p := h
theorem q3_31 {p : Prop} (h : p := by first | rfl | (simp [errW_none, errW_some] <;> rfl) | (simp [*, errW_none, errW_some] <;> rfl)) : p := h
theorem q3_32 {p : Prop} (h : p := by repeat (first | (with_reducible first | exact HB.out | apply below_alloc | apply pw_below_drewN | apply below_drew1 | refine below_set ?_ GE175.out) | exact HB.out)) : p := h
theorem q3_33 {p : Prop} (h : p := by rw [hg]; exact Nat.ne_of_lt (blk_lt (g := gb190) (o := .cells #[.slice Ao29 t185.length co29] 36 (0, 0)) q3_3)) : p := h
theorem q3_34 {p : Prop} (h : p := by rw [hg]; exact Nat.ne_of_gt (blk_lt (g := gb190) (o := .cells #[.slice Ao29 t185.length co29] 36 (0, 0)) q3_3)) : p := h
theorem q3_35 {p : Prop} (h : p := by refine (Kd.R_reads' (e := 3) (base := w.heap.size) (ok := fun k_ => (some k_ ≠ (v217 : Value).ownBlock ∧ (some k_ ≠ (.slice Ao163 t223.length co163 : Value).ownBlock ∧ (some k_ ≠ (.slice Ao35 t211.length co35 : Value).ownBlock ∧ some k_ ≠ (.slice Ao46 t199.length co46 : Value).ownBlock)))) (n := t185.length) (c := co29) ?_).2.2; exact q3_22) : p := h
theorem q3_36 {p : Prop} (h : p := by refine (Kd.R_reads' (e := 3) (base := w.heap.size) (ok := fun k_ => (some k_ ≠ (v217 : Value).ownBlock ∧ (some k_ ≠ (.slice Ao29 t185.length co29 : Value).ownBlock ∧ (some k_ ≠ (.slice Ao35 t211.length co35 : Value).ownBlock ∧ some k_ ≠ (.slice Ao46 t199.length co46 : Value).ownBlock)))) (n := t223.length) (c := co163) ?_).2.2; exact q3_23) : p := h
theorem q3_37 {p : Prop} (h : p := by repeat (first | (with_reducible first | exact HB.out | apply below_alloc | apply pw_below_drewN | apply below_drew1) | exact HB.out)) : p := h
theorem q3_38 {p : Prop} (h : p := by refine (Kd.R_reads' (e := 3) (base := w.heap.size) (ok := fun k_ => (some k_ ≠ (v179 : Value).ownBlock ∧ (some k_ ≠ (.slice Ao29 t185.length co29 : Value).ownBlock ∧ some k_ ≠ (.slice Ao35 t191.length co35 : Value).ownBlock))) (n := t199.length) (c := co46) ?_).2.2; exact q3_24) : p := h
theorem q3_39 {p : Prop} (h : p := by refine (Kd.R_reads' (e := 3) (base := w.heap.size) (ok := fun k_ => (some k_ ≠ (v179 : Value).ownBlock ∧ (some k_ ≠ (.slice Ao35 t191.length co35 : Value).ownBlock ∧ some k_ ≠ (.slice Ao46 t199.length co46 : Value).ownBlock))) (n := t185.length) (c := co29) ?_).2.2; exact q3_25) : p := h
theorem q3_40 {p : Prop} (h : p := by (with_reducible repeat (first | apply Kd.R_alloc | apply Kd.R_drewN | apply Kd.R_drew)); exact Kd.R_mono HO_191000.out (fun _ hk => ⟨hk.1.2, ⟨hk.2, ⟨hk.1.1.1, hk.1.1.2⟩⟩⟩)) : p := h
theorem q3_41 {p : Prop} (h : p := by (with_reducible repeat (first | apply Kd.R_alloc | apply Kd.R_drewN | apply Kd.R_drew)); exact Kd.R_mono HO_195000.out (fun _ hk => ⟨hk.1.2, ⟨hk.2, ⟨hk.1.1.1, hk.1.1.2⟩⟩⟩)) : p := h
theorem q3_42 {p : Prop} (h : p := by (with_reducible repeat (first | apply Kd.R_alloc | apply Kd.R_drewN | apply Kd.R_drew)); exact Kd.R_mono HO_205000.out (fun _ hk => ⟨hk.1.2, ⟨hk.2, ⟨hk.1.1.1, hk.1.1.2⟩⟩⟩)) : p := h
theorem q3_43 {p : Prop} (h : p := by (with_reducible repeat (first | refine blk_drewN ?_ _ | refine blk_drew ?_ | refine blk_alloc ?_ _)); refine blk_put (cs := #[.slice none 0 0]) ?_ 0 _ rfl; (with_reducible repeat (first | refine blk_drewN ?_ _ | refine blk_drew ?_ | refine blk_alloc ?_ _)); exact BK204.out) : p := h
theorem q3_44 {p : Prop} (h : p := by (with_reducible repeat (first | refine blk_drewN ?_ _ | refine blk_drew ?_ | refine blk_alloc ?_ _)); refine blk_put (cs := #[.slice none 0 0]) ?_ 0 _ rfl; (with_reducible repeat (first | refine blk_drewN ?_ _ | refine blk_drew ?_ | refine blk_alloc ?_ _)); exact BK228.out) : p := h
theorem q3_45 {p : Prop} (h : p := by (with_reducible repeat (first | apply Kd.R_alloc | apply Kd.R_drewN | apply Kd.R_drew)); exact Kd.R_mono HO218.out (fun _ hk => ⟨hk.2, ⟨hk.1.1.1.2, ⟨hk.1.1.2, hk.1.2⟩⟩⟩)) : p := h
theorem q3_46 {p : Prop} (h : p := by (with_reducible repeat (first | apply Kd.R_alloc | apply Kd.R_drewN | apply Kd.R_drew)); exact Kd.R_mono HO225.out (fun _ hk => ⟨hk.2, ⟨hk.1.1.1.2, ⟨hk.1.1.2, hk.1.2⟩⟩⟩)) : p := h
theorem q3_47 {p : Prop} (h : p := by (with_reducible repeat (first | apply Kd.R_alloc | apply Kd.R_drewN | apply Kd.R_drew)); exact (Kd.R_mono (Kd.R_far (p := ⟨gb228, 0, none⟩) (Kd.R_types HO_195000.out BK228.out (by decide)) (fun _ hk => hk.2) (.slice Ao163 t223.length co163)) (fun _ h_ => h_.1))) : p := h
theorem q3_48 {p : Prop} (h : p := by (with_reducible repeat (first | apply Kd.R_alloc | apply Kd.R_drewN | apply Kd.R_drew)); exact (Kd.R_mono (Kd.R_far (p := ⟨gb228, 0, none⟩) (Kd.R_types HO_205000.out BK228.out (by decide)) (fun _ hk => hk.2) (.slice Ao163 t223.length co163)) (fun _ h_ => h_.1))) : p := h
theorem q3_49 {p : Prop} (h : p := by (with_reducible repeat (first | apply Kd.R_alloc | apply Kd.R_drewN | apply Kd.R_drew)); exact (Kd.R_mono (Kd.R_far (p := ⟨gb228, 0, none⟩) (Kd.R_types HO218.out BK228.out (by decide)) (fun _ hk => hk.2) (.slice Ao163 t223.length co163)) (fun _ h_ => h_.1))) : p := h
theorem q3_50 {p : Prop} (h : p := by (with_reducible repeat (first | apply Kd.R_alloc | apply Kd.R_drewN | apply Kd.R_drew)); exact (Kd.R_mono (Kd.R_far (p := ⟨gb204, 0, none⟩) (Kd.R_types HO180.out BK204.out (by decide)) (fun _ hk => hk.2) (.slice Ao46 t199.length co46)) (fun _ h_ => h_.1))) : p := h
theorem q3_51 {p : Prop} (h : p := by (with_reducible repeat (first | apply Kd.R_alloc | apply Kd.R_drewN | apply Kd.R_drew)); exact (Kd.R_mono (Kd.R_far (p := ⟨gb204, 0, none⟩) (Kd.R_types HO193.out BK204.out (by decide)) (fun _ hk => hk.2) (.slice Ao46 t199.length co46)) (fun _ h_ => h_.1))) : p := h
theorem q3_52 {p : Prop} (h : p := by repeat (first | exact (Kd.R_reads' HO180.out).2.2 | (with_reducible refine Kd.C_alloc ?_ _) | (with_reducible refine Kd.C_drewN ?_ _) | (with_reducible refine Kd.C_drew ?_))) : p := h
theorem q3_53 {p : Prop} (h : p := by repeat (first | exact (Kd.R_reads' HO218.out).2.2 | (with_reducible refine Kd.C_alloc ?_ _) | (with_reducible refine Kd.C_drewN ?_ _) | (with_reducible refine Kd.C_drew ?_))) : p := h
theorem q3_54 {p : Prop} (h : p := by (with_reducible repeat (first | refine blk_drewN ?_ _ | refine blk_drew ?_ | refine blk_alloc ?_ _)); refine blk_far ?_ NB175_204.out _; (with_reducible repeat (first | refine blk_drewN ?_ _ | refine blk_drew ?_ | refine blk_alloc ?_ _)); exact BK175.out) : p := h
theorem q3_55 {p : Prop} (h : p := by (with_reducible repeat (first | refine blk_drewN ?_ _ | refine blk_drew ?_ | refine blk_alloc ?_ _)); refine blk_far ?_ NB176_204.out _; (with_reducible repeat (first | refine blk_drewN ?_ _ | refine blk_drew ?_ | refine blk_alloc ?_ _)); exact BK176.out) : p := h
theorem q3_56 {p : Prop} (h : p := by (with_reducible repeat (first | refine blk_drewN ?_ _ | refine blk_drew ?_ | refine blk_alloc ?_ _)); refine blk_far ?_ NB190_204.out _; (with_reducible repeat (first | refine blk_drewN ?_ _ | refine blk_drew ?_ | refine blk_alloc ?_ _)); exact BK190.out) : p := h
theorem q3_57 {p : Prop} (h : p := by (with_reducible repeat (first | refine blk_drewN ?_ _ | refine blk_drew ?_ | refine blk_alloc ?_ _)); refine blk_far ?_ NB194_204.out _; (with_reducible repeat (first | refine blk_drewN ?_ _ | refine blk_drew ?_ | refine blk_alloc ?_ _)); exact BK194.out) : p := h
theorem q3_58 {p : Prop} (h : p := by (with_reducible repeat (first | refine blk_drewN ?_ _ | refine blk_drew ?_ | refine blk_alloc ?_ _)); refine blk_far ?_ NB175_228.out _; (with_reducible repeat (first | refine blk_drewN ?_ _ | refine blk_drew ?_ | refine blk_alloc ?_ _)); exact BK175.out) : p := h
theorem q3_59 {p : Prop} (h : p := by (with_reducible repeat (first | refine blk_drewN ?_ _ | refine blk_drew ?_ | refine blk_alloc ?_ _)); refine blk_far ?_ NB176_228.out _; (with_reducible repeat (first | refine blk_drewN ?_ _ | refine blk_drew ?_ | refine blk_alloc ?_ _)); exact BK176.out) : p := h
/-! ### laws_FnExactDo: function 7 -/
mutual
def laws_FnExactDo.j0 : Nat → Int → Bool → Int → Bool → Bool → List Int → Int → Int → Int → Int → List Int → List Int → List Int → Option (Bool)
 | 0, _, _, _, _, _, _, _, _, _, _, _, _, _ => none
 | k + 1, x7, x8, x11, x12, x56, x176000, x177000, x177001, x177002, x177003, x191000, x195000, x205000 => if x56 = true then (some false) else ((laws_toMem.f k x176000).bind fun t206 => ((laws_eqMem.f k x195000 t206).bind fun t209 => (if t209 = true then ((laws_markMem.f k x195000 1).bind fun bt210 => (if bt210.1 < 0 then (laws_FnExactDo.j1 k x7 x8 true x176000 x177000 x177001 x177002 x177003 x191000 x205000) else ((laws_eqMem.f k x205000 x191000).bind fun t212 => (if t212 = true then (if x11 = x7 then (laws_FnExactDo.j1 k x7 x8 (x12 != x8) x176000 x177000 x177001 x177002 x177003 x191000 x205000) else (laws_FnExactDo.j1 k x7 x8 true x176000 x177000 x177001 x177002 x177003 x191000 x205000)) else (laws_FnExactDo.j1 k x7 x8 true x176000 x177000 x177001 x177002 x177003 x191000 x205000))))) else (some false))))
def laws_FnExactDo.j1 : Nat → Int → Bool → Bool → List Int → Int → Int → Int → Int → List Int → List Int → Option (Bool)
 | 0, _, _, _, _, _, _, _, _, _, _ => none
 | k + 1, x7, x8, x82, x176000, x177000, x177001, x177002, x177003, x191000, x205000 => if x82 = true then (some false) else ((laws_markMem.f k x205000 1).bind fun bt213 => ((laws_heldMem.f k bt213.2 1).bind fun t215 => (if t215 < 0 then (some false) else (if t215 = bt213.1 then ((laws_toMem.f k x176000).bind fun t216 => ((laws_toAct.f x177000 x177001 x177002 x177003).bind fun bt219 => ((impl_Do.f t216 bt219.1 bt219.2.1 bt219.2.2.1 bt219.2.2.2).bind fun bt223 => ((laws_eqMem.f k bt223.1 x191000).bind fun t229 => (if t229 = true then (if bt223.2.1 = x7 then (laws_FnExactDo.j2 k bt213.1 (bt223.2.2 != x8) bt213.2) else (laws_FnExactDo.j2 k bt213.1 true bt213.2)) else (laws_FnExactDo.j2 k bt213.1 true bt213.2)))))) else (some false)))))
def laws_FnExactDo.j2 : Nat → Int → Bool → List Int → Option (Bool)
 | 0, _, _, _ => none
 | k + 1, x14, x116, x205000 => if x116 = true then (some false) else ((laws_heldMem.f k x205000 1).bind fun t230 => (if t230 < 0 then (some false) else (if t230 = x14 then (some true) else (some false))))
end
def laws_FnExactDo.f (k : Nat) (l0_0 : List Int) (a1_0 : Int) (a1_1 : Int) (a1_2 : Int) (a1_3 : Int) : Option (Bool) := (laws_szMem.f l0_0 1048576).bind fun t177 => (if t177 < 0 then (some true) else ((laws_toMem.f k l0_0).bind fun t178 => ((laws_toAct.f a1_0 a1_1 a1_2 a1_3).bind fun bt181 => ((spec_Do.f t178 bt181.1 bt181.2.1 bt181.2.2.1 bt181.2.2.2).bind fun bt185 => ((laws_toMem.f k l0_0).bind fun t191 => ((laws_toAct.f a1_0 a1_1 a1_2 a1_3).bind fun bt195 => ((impl_Do.f t191 bt195.1 bt195.2.1 bt195.2.2.1 bt195.2.2.2).bind fun bt199 => ((laws_eqMem.f k bt199.1 bt185.1).bind fun t205 => (if t205 = true then (if bt199.2.1 = bt185.2.1 then (laws_FnExactDo.j0 k bt185.2.1 bt185.2.2 bt199.2.1 bt199.2.2 (bt199.2.2 != bt185.2.2) l0_0 a1_0 a1_1 a1_2 a1_3 bt185.1 t191 bt199.1) else (laws_FnExactDo.j0 k bt185.2.1 bt185.2.2 bt199.2.1 bt199.2.2 true l0_0 a1_0 a1_1 a1_2 a1_3 bt185.1 t191 bt199.1)) else (laws_FnExactDo.j0 k bt185.2.1 bt185.2.2 bt199.2.1 bt199.2.2 true l0_0 a1_0 a1_1 a1_2 a1_3 bt185.1 t191 bt199.1))))))))))
theorem laws_FnExactDo.mono_l : ∀ k, (∀ y0 y1 y2 y3 y4 y5 y6 y7 y8 y9 y10 y11 y12, LeO (laws_FnExactDo.j0 k y0 y1 y2 y3 y4 y5 y6 y7 y8 y9 y10 y11 y12) (laws_FnExactDo.j0 (k + 1) y0 y1 y2 y3 y4 y5 y6 y7 y8 y9 y10 y11 y12)) ∧ (∀ y0 y1 y2 y3 y4 y5 y6 y7 y8 y9, LeO (laws_FnExactDo.j1 k y0 y1 y2 y3 y4 y5 y6 y7 y8 y9) (laws_FnExactDo.j1 (k + 1) y0 y1 y2 y3 y4 y5 y6 y7 y8 y9)) ∧ (∀ y0 y1 y2, LeO (laws_FnExactDo.j2 k y0 y1 y2) (laws_FnExactDo.j2 (k + 1) y0 y1 y2))
 | 0 => ⟨fun _ _ _ _ _ _ _ _ _ _ _ _ _ r h => by simp [laws_FnExactDo.j0] at h, fun _ _ _ _ _ _ _ _ _ _ r h => by simp [laws_FnExactDo.j1] at h, fun _ _ _ r h => by simp [laws_FnExactDo.j2] at h⟩
 | k + 1 => by
  obtain ⟨ih0, ih1, ih2⟩ := laws_FnExactDo.mono_l k
  refine ⟨?_, ?_, ?_⟩
  ·intro y0 y1 y2 y3 y4 y5 y6 y7 y8 y9 y10 y11 y12
   unfold laws_FnExactDo.j0
   repeat' first
   | (with_reducible exact ih0 _ _ _ _ _ _ _ _ _ _ _ _ _)
   | (with_reducible exact ih1 _ _ _ _ _ _ _ _ _ _)
   | (with_reducible exact ih2 _ _ _)
   | (with_reducible exact laws_eqMem.mono _ _ _)
   | (with_reducible exact laws_heldMem.mono _ _ _)
   | (with_reducible exact laws_markMem.mono _ _ _)
   | (with_reducible exact laws_toMem.mono _ _)
   | (with_reducible exact LeO.refl _)
   | (with_reducible exact LeO.none _)
   | (with_reducible refine LeO.ite ?_ ?_)
   | (with_reducible refine LeO.bind ?_ (fun _ => ?_))
   | exact ih0 _ _ _ _ _ _ _ _ _ _ _ _ _
   | exact ih1 _ _ _ _ _ _ _ _ _ _
   | exact ih2 _ _ _
   | exact laws_eqMem.mono _ _ _
   | exact laws_heldMem.mono _ _ _
   | exact laws_markMem.mono _ _ _
   | exact laws_toMem.mono _ _
   | exact LeO.none _
   | refine LeO.ite ?_ ?_
   | refine LeO.bind ?_ (fun _ => ?_)
  ·intro y0 y1 y2 y3 y4 y5 y6 y7 y8 y9
   unfold laws_FnExactDo.j1
   repeat' first
   | (with_reducible exact ih0 _ _ _ _ _ _ _ _ _ _ _ _ _)
   | (with_reducible exact ih1 _ _ _ _ _ _ _ _ _ _)
   | (with_reducible exact ih2 _ _ _)
   | (with_reducible exact laws_eqMem.mono _ _ _)
   | (with_reducible exact laws_heldMem.mono _ _ _)
   | (with_reducible exact laws_markMem.mono _ _ _)
   | (with_reducible exact laws_toMem.mono _ _)
   | (with_reducible exact LeO.refl _)
   | (with_reducible exact LeO.none _)
   | (with_reducible refine LeO.ite ?_ ?_)
   | (with_reducible refine LeO.bind ?_ (fun _ => ?_))
   | exact ih0 _ _ _ _ _ _ _ _ _ _ _ _ _
   | exact ih1 _ _ _ _ _ _ _ _ _ _
   | exact ih2 _ _ _
   | exact laws_eqMem.mono _ _ _
   | exact laws_heldMem.mono _ _ _
   | exact laws_markMem.mono _ _ _
   | exact laws_toMem.mono _ _
   | exact LeO.none _
   | refine LeO.ite ?_ ?_
   | refine LeO.bind ?_ (fun _ => ?_)
  ·intro y0 y1 y2
   unfold laws_FnExactDo.j2
   repeat' first
   | (with_reducible exact ih0 _ _ _ _ _ _ _ _ _ _ _ _ _)
   | (with_reducible exact ih1 _ _ _ _ _ _ _ _ _ _)
   | (with_reducible exact ih2 _ _ _)
   | (with_reducible exact laws_eqMem.mono _ _ _)
   | (with_reducible exact laws_heldMem.mono _ _ _)
   | (with_reducible exact laws_markMem.mono _ _ _)
   | (with_reducible exact laws_toMem.mono _ _)
   | (with_reducible exact LeO.refl _)
   | (with_reducible exact LeO.none _)
   | (with_reducible refine LeO.ite ?_ ?_)
   | (with_reducible refine LeO.bind ?_ (fun _ => ?_))
   | exact ih0 _ _ _ _ _ _ _ _ _ _ _ _ _
   | exact ih1 _ _ _ _ _ _ _ _ _ _
   | exact ih2 _ _ _
   | exact laws_eqMem.mono _ _ _
   | exact laws_heldMem.mono _ _ _
   | exact laws_markMem.mono _ _ _
   | exact laws_toMem.mono _ _
   | exact LeO.none _
   | refine LeO.ite ?_ ?_
   | refine LeO.bind ?_ (fun _ => ?_)
theorem laws_FnExactDo.mono : ∀ a0 a1 a2 a3 a4 k, LeO (laws_FnExactDo.f k a0 a1 a2 a3 a4) (laws_FnExactDo.f (k + 1) a0 a1 a2 a3 a4) := by
 intro a0 a1 a2 a3 a4 k
 obtain ⟨ih0, ih1, ih2⟩ := laws_FnExactDo.mono_l k
 unfold laws_FnExactDo.f
 repeat' first
   | (with_reducible exact ih0 _ _ _ _ _ _ _ _ _ _ _ _ _)
   | (with_reducible exact ih1 _ _ _ _ _ _ _ _ _ _)
   | (with_reducible exact ih2 _ _ _)
   | (with_reducible exact laws_eqMem.mono _ _ _)
   | (with_reducible exact laws_heldMem.mono _ _ _)
   | (with_reducible exact laws_markMem.mono _ _ _)
   | (with_reducible exact laws_toMem.mono _ _)
   | (with_reducible exact LeO.refl _)
   | (with_reducible exact LeO.none _)
   | (with_reducible refine LeO.ite ?_ ?_)
   | (with_reducible refine LeO.bind ?_ (fun _ => ?_))
   | exact ih0 _ _ _ _ _ _ _ _ _ _ _ _ _
   | exact ih1 _ _ _ _ _ _ _ _ _ _
   | exact ih2 _ _ _
   | exact laws_eqMem.mono _ _ _
   | exact laws_heldMem.mono _ _ _
   | exact laws_markMem.mono _ _ _
   | exact laws_toMem.mono _ _
   | exact LeO.none _
   | refine LeO.ite ?_ ?_
   | refine LeO.bind ?_ (fun _ => ?_)
def laws_FnExactDo.T5 : Bool × List (List Nat × List Nat) := (true, [([], []), ([0], [0]), ([], []), ([2, 1], [2]), ([1, 3, 3], [1, 3]), ([4], [4]), ([5], [5]), ([5], [5]), ([5], [5]), ([], []), ([9, 6, 4, 0, 1, 2, 3, 4, 5, 6, 9], [6, 9]), ([7, 10, 0, 1, 2, 3, 4, 5, 6, 7, 9, 10], [7]), ([8, 11, 0, 1, 2, 3, 4, 5, 6, 7, 8, 9, 10, 11], [8])])
def laws_FnExactDo.B5 : List Nat := [0, 1, 0, 7, 15, 31, 63, 63, 63, 0, 639, 1791, 4095]
theorem laws_FnExactDo.tab5 : rtab .any (opsOf Try.f7 5) = laws_FnExactDo.T5 := by kernel_rfl
theorem laws_FnExactDo.bits5 : waitsOk laws_FnExactDo.T5.2 laws_FnExactDo.B5 = true := by kernel_rfl
def laws_FnExactDo.T7 : Bool × List (List Nat × List Nat) := (true, [([], []), ([], []), ([1], [1]), ([0, 2, 2], [0, 2]), ([3], [3]), ([4], [4]), ([4], [4]), ([4], [4]), ([], []), ([8, 5, 3, 0, 1, 2, 3, 4, 5, 8], [5, 8]), ([6, 9, 0, 1, 2, 3, 4, 5, 6, 8, 9], [6]), ([7, 10, 0, 1, 2, 3, 4, 5, 6, 7, 8, 9, 10], [7])])
def laws_FnExactDo.B7 : List Nat := [0, 0, 2, 7, 15, 31, 31, 31, 0, 319, 895, 2047]
theorem laws_FnExactDo.tab7 : rtab .any (opsOf Try.f7 7) = laws_FnExactDo.T7 := by kernel_rfl
theorem laws_FnExactDo.bits7 : waitsOk laws_FnExactDo.T7.2 laws_FnExactDo.B7 = true := by kernel_rfl
def laws_FnExactDo.T24 : Bool × List (List Nat × List Nat) := (true, [([], []), ([0], [0]), ([], []), ([2, 1], [2]), ([1, 3, 3], [1, 3]), ([4], [4]), ([5], [5]), ([5], [5]), ([5], [5]), ([], []), ([9, 6, 4, 0, 1, 2, 3, 4, 5, 6, 9], [6, 9]), ([7, 10, 0, 1, 2, 3, 4, 5, 6, 7, 9, 10], [7]), ([8, 11, 0, 1, 2, 3, 4, 5, 6, 7, 8, 9, 10, 11], [8])])
def laws_FnExactDo.B24 : List Nat := [0, 1, 0, 7, 15, 31, 63, 63, 63, 0, 639, 1791, 4095]
theorem laws_FnExactDo.tab24 : rtab .any (opsOf Try.f7 24) = laws_FnExactDo.T24 := by kernel_rfl
theorem laws_FnExactDo.bits24 : waitsOk laws_FnExactDo.T24.2 laws_FnExactDo.B24 = true := by kernel_rfl
set_option maxHeartbeats 8000000 in
set_option maxRecDepth 100000 in
theorem laws_FnExactDo.calls (k : Nat) (A0_0 : Option Addr) (c0_0 : Nat) (l0_0 : List Int) (a1_0 : Int) (a1_1 : Int) (a1_2 : Int) (a1_3 : Int) (r : Bool) (w : World) (hr0_0 : Kd.C (Kd.int .i64) w A0_0 l0_0.length l0_0) (hc0_0 : l0_0.length ≤ c0_0) (h : laws_FnExactDo.f k l0_0 a1_0 a1_1 a1_2 a1_3 = some r) :
  Calls Try.prog 7 #[.agg #[.slice A0_0 l0_0.length c0_0], .agg #[.int .i64 a1_0, .int .i64 a1_1, .int .i64 a1_2, .int .i64 a1_3]] w fun e w' => e = .returned (.bool r) ∧ Below w.heap.size w w' := by
 have hu31 := Try.underlying31
 have hu33 := Try.underlying33
 have hu36 := Try.underlying36
 have HR0_0 := Aside0.mk hr0_0
 have HC0_0 := Aside0.mk hc0_0
 clear hr0_0 hc0_0
 have HB := Aside0.mk (Below.refl w.heap.size w)
 have H : ((laws_szMem.f l0_0 1048576).bind fun t177 => (if t177 < 0 then (some true) else ((laws_toMem.f k l0_0).bind fun t178 => ((laws_toAct.f a1_0 a1_1 a1_2 a1_3).bind fun bt181 => ((spec_Do.f t178 bt181.1 bt181.2.1 bt181.2.2.1 bt181.2.2.2).bind fun bt185 => ((laws_toMem.f k l0_0).bind fun t191 => ((laws_toAct.f a1_0 a1_1 a1_2 a1_3).bind fun bt195 => ((impl_Do.f t191 bt195.1 bt195.2.1 bt195.2.2.1 bt195.2.2.2).bind fun bt199 => ((laws_eqMem.f k bt199.1 bt185.1).bind fun t205 => (if t205 = true then (if bt199.2.1 = bt185.2.1 then (laws_FnExactDo.j0 k bt185.2.1 bt185.2.2 bt199.2.1 bt199.2.2 (bt199.2.2 != bt185.2.2) l0_0 a1_0 a1_1 a1_2 a1_3 bt185.1 t191 bt199.1) else (laws_FnExactDo.j0 k bt185.2.1 bt185.2.2 bt199.2.1 bt199.2.2 true l0_0 a1_0 a1_1 a1_2 a1_3 bt185.1 t191 bt199.1)) else (laws_FnExactDo.j0 k bt185.2.1 bt185.2.2 bt199.2.1 bt199.2.2 true l0_0 a1_0 a1_1 a1_2 a1_3 bt185.1 t191 bt199.1))))))))))) = some r := h
 clear h
 replace H := Option.bind_eq_some_iff.mp H
 obtain ⟨t177, A30, H⟩ := H
 replace H : (if t177 < 0 then (some true) else ((laws_toMem.f k l0_0).bind fun t178 => ((laws_toAct.f a1_0 a1_1 a1_2 a1_3).bind fun bt181 => ((spec_Do.f t178 bt181.1 bt181.2.1 bt181.2.2.1 bt181.2.2.2).bind fun bt185 => ((laws_toMem.f k l0_0).bind fun t191 => ((laws_toAct.f a1_0 a1_1 a1_2 a1_3).bind fun bt195 => ((impl_Do.f t191 bt195.1 bt195.2.1 bt195.2.2.1 bt195.2.2.2).bind fun bt199 => ((laws_eqMem.f k bt199.1 bt185.1).bind fun t205 => (if t205 = true then (if bt199.2.1 = bt185.2.1 then (laws_FnExactDo.j0 k bt185.2.1 bt185.2.2 bt199.2.1 bt199.2.2 (bt199.2.2 != bt185.2.2) l0_0 a1_0 a1_1 a1_2 a1_3 bt185.1 t191 bt199.1) else (laws_FnExactDo.j0 k bt185.2.1 bt185.2.2 bt199.2.1 bt199.2.2 true l0_0 a1_0 a1_1 a1_2 a1_3 bt185.1 t191 bt199.1)) else (laws_FnExactDo.j0 k bt185.2.1 bt185.2.2 bt199.2.1 bt199.2.2 true l0_0 a1_0 a1_1 a1_2 a1_3 bt185.1 t191 bt199.1)))))))))) = some r := H
 have A3 := Aside0.mk A30
 clear A30
 by_cases c4 : t177 < 0
 ·rw [if_pos c4] at H
  have c4b0 : decide (t177 < 0) = true := decide_eq_true c4
  clear c4
  obtain rfl := Option.some.inj H
  go_enter Try.func7, Try.ntmps7
  go_wp2_with (first | ((with_reducible refine gate_dst (N := 2) rfl ?_); refine box_event ?hg (N := 2) ?hd (cs := #[.slice A0_0 l0_0.length c0_0]) (t := 31) ?hr ?_; (case hd => rfl); (case hg => rfl); (case hr => first | (go_simp; done) | (go_simp; rfl)); intro gb175 hg w5 hbox hb; have n0_ := Aside0.mk (below_step q3_37 hb); have n1_ := Aside0.mk (hbox); have n2_ := Aside0.mk ((by rw [hg]; exact (below_size q3_37) : w.heap.size ≤ gb175)); have n3_ := Aside0.mk ((by rw [hg]; exact (below_size q3_37) : w.heap.size ≤ gb175)); clear HB; have HB := n0_; have BK175 := n1_; have GW175 := n2_; have GE175 := n3_; clear n0_ n1_ n2_ n3_; clear hb hbox hg) | ((with_reducible refine gate_dst (N := 3) rfl ?_); refine box_event ?hg (N := 3) ?hd (cs := #[.int .i64 a1_0, .int .i64 a1_1, .int .i64 a1_2, .int .i64 a1_3]) (t := 33) ?hr ?_; (case hd => rfl); (case hg => rfl); (case hr => first | (go_simp; done) | (go_simp; rfl)); intro gb176 hg w6 hbox hb; have n0_ := Aside0.mk (blk_below (g := gb175) (o := .cells #[.slice A0_0 l0_0.length c0_0] 31 (0, 0)) q3_1 hb); have n1_ := Aside0.mk (below_step q3_32 hb); have n2_ := Aside0.mk (hbox); have n3_ := Aside0.mk ((by rw [hg]; exact (below_size q3_32) : w.heap.size ≤ gb176)); have n4_ := Aside0.mk ((by rw [hg]; exact (below_size q3_32) : w.heap.size ≤ gb176)); have n5_ := Aside0.mk ((q3_17 : gb175 ≠ gb176)); have n6_ := Aside0.mk ((q3_18 : gb176 ≠ gb175)); clear BK175; clear HB; have BK175 := n0_; have HB := n1_; have BK176 := n2_; have GW176 := n3_; have GE176 := n4_; have NB175_176 := n5_; have NB176_175 := n6_; clear n0_ n1_ n2_ n3_ n4_ n5_ n6_; clear hb hbox hg; have hnb7 := NB175_176.out; have hnc7 := NB176_175.out; have hcz8_0 : w6.cell? ⟨gb175, 0, none⟩ = some (.slice A0_0 l0_0.length c0_0) := (blk_cell BK175.out 0).trans rfl; have hfz8_0 := blk_frozen BK175.out 0) | ((with_reducible refine gate_callee (f := 21) rfl ?_); refine goesL_ (some 21) rfl rfl Try.func21 q3_30 rfl #[.agg #[.slice A0_0 l0_0.length c0_0], .int .i64 1048576] rfl q3_7 ?_; (with_reducible refine (laws_szMem.calls _ _ l0_0 1048576 t177 _ ?side1 ?side2 A3.out).mono ?_); (case side1 => exact q3_27); (case side2 => exact HC0_0.out); rintro e w9 ⟨rfl, hb⟩; refine ⟨_, rfl, ?_⟩; have n0_ := Aside0.mk (blk_below (g := gb175) (o := .cells #[.slice A0_0 l0_0.length c0_0] 31 (0, 0)) q3_1 hb); have n1_ := Aside0.mk (blk_below (g := gb176) (o := .cells #[.int .i64 a1_0, .int .i64 a1_1, .int .i64 a1_2, .int .i64 a1_3] 33 (0, 0)) q3_2 hb); have n2_ := Aside0.mk (below_step q3_9 hb); clear BK175; clear BK176; clear HB; have BK175 := n0_; have BK176 := n1_; have HB := n2_; clear n0_ n1_ n2_; (try clear hb); (try clear hb2); (try clear hk); (try clear hi)))
  go_ret
  exact ⟨q3_31, q3_9⟩
 ·rw [if_neg c4] at H
  have c4b0 : decide (t177 < 0) = false := decide_eq_false c4
  clear c4
  replace H := Option.bind_eq_some_iff.mp H
  obtain ⟨t178, A100, H⟩ := H
  replace H : ((laws_toAct.f a1_0 a1_1 a1_2 a1_3).bind fun bt181 => ((spec_Do.f t178 bt181.1 bt181.2.1 bt181.2.2.1 bt181.2.2.2).bind fun bt185 => ((laws_toMem.f k l0_0).bind fun t191 => ((laws_toAct.f a1_0 a1_1 a1_2 a1_3).bind fun bt195 => ((impl_Do.f t191 bt195.1 bt195.2.1 bt195.2.2.1 bt195.2.2.2).bind fun bt199 => ((laws_eqMem.f k bt199.1 bt185.1).bind fun t205 => (if t205 = true then (if bt199.2.1 = bt185.2.1 then (laws_FnExactDo.j0 k bt185.2.1 bt185.2.2 bt199.2.1 bt199.2.2 (bt199.2.2 != bt185.2.2) l0_0 a1_0 a1_1 a1_2 a1_3 bt185.1 t191 bt199.1) else (laws_FnExactDo.j0 k bt185.2.1 bt185.2.2 bt199.2.1 bt199.2.2 true l0_0 a1_0 a1_1 a1_2 a1_3 bt185.1 t191 bt199.1)) else (laws_FnExactDo.j0 k bt185.2.1 bt185.2.2 bt199.2.1 bt199.2.2 true l0_0 a1_0 a1_1 a1_2 a1_3 bt185.1 t191 bt199.1)))))))) = some r := H
  have A10 := Aside0.mk A100
  clear A100
  replace H := Option.bind_eq_some_iff.mp H
  obtain ⟨⟨t181, t182, t183, t184⟩, A110, H⟩ := H
  replace H : ((spec_Do.f t178 t181 t182 t183 t184).bind fun bt185 => ((laws_toMem.f k l0_0).bind fun t191 => ((laws_toAct.f a1_0 a1_1 a1_2 a1_3).bind fun bt195 => ((impl_Do.f t191 bt195.1 bt195.2.1 bt195.2.2.1 bt195.2.2.2).bind fun bt199 => ((laws_eqMem.f k bt199.1 bt185.1).bind fun t205 => (if t205 = true then (if bt199.2.1 = bt185.2.1 then (laws_FnExactDo.j0 k bt185.2.1 bt185.2.2 bt199.2.1 bt199.2.2 (bt199.2.2 != bt185.2.2) l0_0 a1_0 a1_1 a1_2 a1_3 bt185.1 t191 bt199.1) else (laws_FnExactDo.j0 k bt185.2.1 bt185.2.2 bt199.2.1 bt199.2.2 true l0_0 a1_0 a1_1 a1_2 a1_3 bt185.1 t191 bt199.1)) else (laws_FnExactDo.j0 k bt185.2.1 bt185.2.2 bt199.2.1 bt199.2.2 true l0_0 a1_0 a1_1 a1_2 a1_3 bt185.1 t191 bt199.1))))))) = some r := H
  have A11 := Aside0.mk A110
  clear A110
  replace H := Option.bind_eq_some_iff.mp H
  obtain ⟨⟨t185, t188, t189⟩, A120, H⟩ := H
  replace H : ((laws_toMem.f k l0_0).bind fun t191 => ((laws_toAct.f a1_0 a1_1 a1_2 a1_3).bind fun bt195 => ((impl_Do.f t191 bt195.1 bt195.2.1 bt195.2.2.1 bt195.2.2.2).bind fun bt199 => ((laws_eqMem.f k bt199.1 t185).bind fun t205 => (if t205 = true then (if bt199.2.1 = t188 then (laws_FnExactDo.j0 k t188 t189 bt199.2.1 bt199.2.2 (bt199.2.2 != t189) l0_0 a1_0 a1_1 a1_2 a1_3 t185 t191 bt199.1) else (laws_FnExactDo.j0 k t188 t189 bt199.2.1 bt199.2.2 true l0_0 a1_0 a1_1 a1_2 a1_3 t185 t191 bt199.1)) else (laws_FnExactDo.j0 k t188 t189 bt199.2.1 bt199.2.2 true l0_0 a1_0 a1_1 a1_2 a1_3 t185 t191 bt199.1)))))) = some r := H
  have A12 := Aside0.mk A120
  clear A120
  replace H := Option.bind_eq_some_iff.mp H
  obtain ⟨t191, A130, H⟩ := H
  replace H : ((laws_toAct.f a1_0 a1_1 a1_2 a1_3).bind fun bt195 => ((impl_Do.f t191 bt195.1 bt195.2.1 bt195.2.2.1 bt195.2.2.2).bind fun bt199 => ((laws_eqMem.f k bt199.1 t185).bind fun t205 => (if t205 = true then (if bt199.2.1 = t188 then (laws_FnExactDo.j0 k t188 t189 bt199.2.1 bt199.2.2 (bt199.2.2 != t189) l0_0 a1_0 a1_1 a1_2 a1_3 t185 t191 bt199.1) else (laws_FnExactDo.j0 k t188 t189 bt199.2.1 bt199.2.2 true l0_0 a1_0 a1_1 a1_2 a1_3 t185 t191 bt199.1)) else (laws_FnExactDo.j0 k t188 t189 bt199.2.1 bt199.2.2 true l0_0 a1_0 a1_1 a1_2 a1_3 t185 t191 bt199.1))))) = some r := H
  have A13 := Aside0.mk A130
  clear A130
  replace H := Option.bind_eq_some_iff.mp H
  obtain ⟨⟨t195, t196, t197, t198⟩, A140, H⟩ := H
  replace H : ((impl_Do.f t191 t195 t196 t197 t198).bind fun bt199 => ((laws_eqMem.f k bt199.1 t185).bind fun t205 => (if t205 = true then (if bt199.2.1 = t188 then (laws_FnExactDo.j0 k t188 t189 bt199.2.1 bt199.2.2 (bt199.2.2 != t189) l0_0 a1_0 a1_1 a1_2 a1_3 t185 t191 bt199.1) else (laws_FnExactDo.j0 k t188 t189 bt199.2.1 bt199.2.2 true l0_0 a1_0 a1_1 a1_2 a1_3 t185 t191 bt199.1)) else (laws_FnExactDo.j0 k t188 t189 bt199.2.1 bt199.2.2 true l0_0 a1_0 a1_1 a1_2 a1_3 t185 t191 bt199.1)))) = some r := H
  have A14 := Aside0.mk A140
  clear A140
  replace H := Option.bind_eq_some_iff.mp H
  obtain ⟨⟨t199, t202, t203⟩, A150, H⟩ := H
  replace H : ((laws_eqMem.f k t199 t185).bind fun t205 => (if t205 = true then (if t202 = t188 then (laws_FnExactDo.j0 k t188 t189 t202 t203 (t203 != t189) l0_0 a1_0 a1_1 a1_2 a1_3 t185 t191 t199) else (laws_FnExactDo.j0 k t188 t189 t202 t203 true l0_0 a1_0 a1_1 a1_2 a1_3 t185 t191 t199)) else (laws_FnExactDo.j0 k t188 t189 t202 t203 true l0_0 a1_0 a1_1 a1_2 a1_3 t185 t191 t199))) = some r := H
  have A15 := Aside0.mk A150
  clear A150
  have HC16 := Aside0.mk H
  clear H
  go_enter Try.func7, Try.ntmps7
  try go_wp2_with (first | ((with_reducible refine gate_dst (N := 2) rfl ?_); refine box_event ?hg (N := 2) ?hd (cs := #[.slice A0_0 l0_0.length c0_0]) (t := 31) ?hr ?_; (case hd => rfl); (case hg => rfl); (case hr => first | (go_simp; done) | (go_simp; rfl)); intro gb175 hg w17 hbox hb; have n0_ := Aside0.mk (below_step q3_37 hb); have n1_ := Aside0.mk (hbox); have n2_ := Aside0.mk ((by rw [hg]; exact (below_size q3_37) : w.heap.size ≤ gb175)); have n3_ := Aside0.mk ((by rw [hg]; exact (below_size q3_37) : w.heap.size ≤ gb175)); clear HB; have HB := n0_; have BK175 := n1_; have GW175 := n2_; have GE175 := n3_; clear n0_ n1_ n2_ n3_; clear hb hbox hg) | ((with_reducible refine gate_dst (N := 3) rfl ?_); refine box_event ?hg (N := 3) ?hd (cs := #[.int .i64 a1_0, .int .i64 a1_1, .int .i64 a1_2, .int .i64 a1_3]) (t := 33) ?hr ?_; (case hd => rfl); (case hg => rfl); (case hr => first | (go_simp; done) | (go_simp; rfl)); intro gb176 hg w18 hbox hb; have n0_ := Aside0.mk (blk_below (g := gb175) (o := .cells #[.slice A0_0 l0_0.length c0_0] 31 (0, 0)) q3_1 hb); have n1_ := Aside0.mk (below_step q3_32 hb); have n2_ := Aside0.mk (hbox); have n3_ := Aside0.mk ((by rw [hg]; exact (below_size q3_32) : w.heap.size ≤ gb176)); have n4_ := Aside0.mk ((by rw [hg]; exact (below_size q3_32) : w.heap.size ≤ gb176)); have n5_ := Aside0.mk ((q3_17 : gb175 ≠ gb176)); have n6_ := Aside0.mk ((q3_18 : gb176 ≠ gb175)); clear BK175; clear HB; have BK175 := n0_; have HB := n1_; have BK176 := n2_; have GW176 := n3_; have GE176 := n4_; have NB175_176 := n5_; have NB176_175 := n6_; clear n0_ n1_ n2_ n3_ n4_ n5_ n6_; clear hb hbox hg; have hnb19 := NB175_176.out; have hnc19 := NB176_175.out; have hcz20_0 : w18.cell? ⟨gb175, 0, none⟩ = some (.slice A0_0 l0_0.length c0_0) := (blk_cell BK175.out 0).trans rfl; have hfz20_0 := blk_frozen BK175.out 0) | ((with_reducible refine gate_callee (f := 21) rfl ?_); refine goesL_ (some 21) rfl rfl Try.func21 q3_30 rfl #[.agg #[.slice A0_0 l0_0.length c0_0], .int .i64 1048576] rfl q3_7 ?_; (with_reducible refine (laws_szMem.calls _ _ l0_0 1048576 t177 _ ?side1 ?side2 A3.out).mono ?_); (case side1 => exact q3_27); (case side2 => exact HC0_0.out); rintro e w21 ⟨rfl, hb⟩; refine ⟨_, rfl, ?_⟩; have n0_ := Aside0.mk (blk_below (g := gb175) (o := .cells #[.slice A0_0 l0_0.length c0_0] 31 (0, 0)) q3_1 hb); have n1_ := Aside0.mk (blk_below (g := gb176) (o := .cells #[.int .i64 a1_0, .int .i64 a1_1, .int .i64 a1_2, .int .i64 a1_3] 33 (0, 0)) q3_2 hb); have n2_ := Aside0.mk (below_step q3_9 hb); clear BK175; clear BK176; clear HB; have BK175 := n0_; have BK176 := n1_; have HB := n2_; clear n0_ n1_ n2_; (try clear hb); (try clear hb2); (try clear hk); (try clear hi)))
  have n0_ := Aside0.mk (blk_drew BK175.out)
  have n1_ := Aside0.mk (blk_drew BK176.out)
  have n2_ := Aside0.mk (below_drew1 HB.out)
  clear BK175
  clear BK176
  clear HB
  have BK175 := n0_
  have BK176 := n1_
  have HB := n2_
  clear n0_ n1_ n2_
  refine start_ (n := 13) (S := fun w' => w'.cell? ⟨gb175, 0, none⟩ = some (.slice A0_0 l0_0.length c0_0) ∧ w'.cell? ⟨gb176, 0, none⟩ = some (.int .i64 a1_0) ∧ w'.cell? ⟨gb176, 1, none⟩ = some (.int .i64 a1_1) ∧ w'.cell? ⟨gb176, 2, none⟩ = some (.int .i64 a1_2) ∧ w'.cell? ⟨gb176, 3, none⟩ = some (.int .i64 a1_3)) (ds := []) #[F,F,F,F,F,F,F,F,F,F,F,F,F] q3_30 rfl rfl ⟨(blk_cell BK175.out 0).trans rfl, (blk_cell BK176.out 0).trans rfl, (blk_cell BK176.out 1).trans rfl, (blk_cell BK176.out 2).trans rfl, (blk_cell BK176.out 3).trans rfl⟩ (fun hHeld => ?_); refine with_tabW laws_FnExactDo.tab5 laws_FnExactDo.bits5 (fun HT_ HW_ => ?_)
  generalize w21.drew = w22 at BK175 BK176 HB hHeld ⊢
  refine take_ (i := 0) (N := some 25) (v := ?_) (a' := ?_) #[T,F,F,F,F,F,F,F,F,F,F,F,F] rfl rfl (take_ofW HT_.out HW_.out q3_30) (fun _ _ _ h => h) (Or.inl ⟨by rfl, ?_⟩) hHeld ?_ ?_
  rotate_left
  ·rintro w' ⟨s0, s1, s2, s3, s4⟩
   go_simp
   with_reducible rfl
  rotate_left
  ·simp only [Act.put, List.setIfInBounds_toArray, List.set_cons_zero, List.set_cons_succ, i64_w, i32_w]
   rfl
  refine take_ (i := 2) (N := some 27) (v := ?_) (a' := ?_) #[T,F,T,F,F,F,F,F,F,F,F,F,F] rfl rfl (take_ofW HT_.out HW_.out q3_30) (fun _ _ _ h => h) (Or.inl ⟨by rfl, ?_⟩) hHeld ?_ ?_
  rotate_left
  ·rintro w' ⟨s0, s1, s2, s3, s4⟩
   go_simp
   with_reducible rfl
  rotate_left
  ·simp only [Act.put, List.setIfInBounds_toArray, List.set_cons_zero, List.set_cons_succ, i64_w, i32_w]
   rfl
  refine join_ (σ := Value × Value × Nat) 3 #[T,T,T,T,T,T,T,T,T,T,F,F,F] (fun s_ => [(26, .agg #[s_.1]), (28, .agg #[.int .i64 t181, .int .i64 t182, .int .i64 t183, .int .i64 t184]), (29, .tuple #[.agg #[s_.2.1], .int .i64 t188, .bool t189]), (6, .pointer (some ⟨s_.2.2, 0, none⟩)), (24, .tuple #[.agg #[s_.2.1], .int .i64 t188, .bool t189]), (30, .agg #[s_.2.1]), (31, .int .i64 t188), (32, .bool t189)]) (fun s_ w' => (w'.cell? ⟨gb175, 0, none⟩ = some (.slice A0_0 l0_0.length c0_0) ∧ w'.cell? ⟨gb176, 0, none⟩ = some (.int .i64 a1_0) ∧ w'.cell? ⟨gb176, 1, none⟩ = some (.int .i64 a1_1) ∧ w'.cell? ⟨gb176, 2, none⟩ = some (.int .i64 a1_2) ∧ w'.cell? ⟨gb176, 3, none⟩ = some (.int .i64 a1_3)) ∧ (Kd.R (Kd.int .i64) 3 w' w.heap.size (fun k_ => some k_ ≠ (s_.2.1 : Value).ownBlock) s_.1 t178) ∧ (Kd.R (Kd.int .i64) 3 w' w.heap.size (fun k_ => some k_ ≠ (s_.1 : Value).ownBlock) s_.2.1 t185) ∧ (w'.heap[gb175]? = some (.cells #[.slice A0_0 l0_0.length c0_0] 31 (0, 0))) ∧ (w'.heap[gb176]? = some (.cells #[.int .i64 a1_0, .int .i64 a1_1, .int .i64 a1_2, .int .i64 a1_3] 33 (0, 0))) ∧ (w'.heap[s_.2.2]? = some (.cells #[.slice none 0 0] 36 (0, 0))) ∧ (w.heap.size ≤ s_.2.2) ∧ (w.heap.size ≤ s_.2.2) ∧ (gb175 ≠ s_.2.2) ∧ (s_.2.2 ≠ gb175) ∧ (gb176 ≠ s_.2.2) ∧ (s_.2.2 ≠ gb176) ∧ (Below w.heap.size w w')) ?_ ?_
  rotate_left
  ·intro hCont
   refine two_ (i := 1) (j := 9) (Ni := some 26) (Nj := some 6) #[T,T,T,F,F,F,F,F,F,F,F,F,F] #[T,F,T,F,F,F,F,F,F,T,F,F,F] rfl rfl rfl rfl (two_of HT_.out q3_30) (by decide) (by decide) (fun K hK => ?_) (fun K hK => ?_)
   ·skip
    refine goes_ Try.func23 q3_30 rfl #[.agg #[.slice A0_0 l0_0.length c0_0]] (by rfl) rfl rfl q3_7 ?_
    with_reducible refine (laws_toMem.calls k _ _ l0_0 t178 _ ?side1 ?side2 A10.out).mono ?_
    (case side1 => exact q3_27)
    (case side2 => exact HC0_0.out)
    rintro e w23 ⟨v179, rfl, ho0, hb⟩
    refine ⟨_, rfl, ?_⟩
    have n0_ := Aside0.mk (Kd.R_lower ho0 (below_size q3_9))
    have n1_ := Aside0.mk (blk_below (g := gb175) (o := .cells #[.slice A0_0 l0_0.length c0_0] 31 (0, 0)) q3_1 hb)
    have n2_ := Aside0.mk (blk_below (g := gb176) (o := .cells #[.int .i64 a1_0, .int .i64 a1_1, .int .i64 a1_2, .int .i64 a1_3] 33 (0, 0)) q3_2 hb)
    have n3_ := Aside0.mk (below_step q3_9 hb)
    clear BK175
    clear BK176
    clear HB
    have HO180 := n0_
    have BK175 := n1_
    have BK176 := n2_
    have HB := n3_
    clear n0_ n1_ n2_ n3_
    (try clear hb)
    (try clear hb2)
    (try clear hk)
    (try clear hi)
    (try clear ho0)
    refine hK.out _ _ ⟨(blk_cell BK175.out 0).trans rfl, (blk_cell BK176.out 0).trans rfl, (blk_cell BK176.out 1).trans rfl, (blk_cell BK176.out 2).trans rfl, (blk_cell BK176.out 3).trans rfl⟩ (fun hHeld => ?_)
    clear hK K
    refine norm_ (a' := ?_) ?_ ?_
    rotate_left
    ·show Act.put _ (some 26) _ = _
     simp only [Act.put, List.setIfInBounds_toArray, List.set_cons_zero, List.set_cons_succ, i64_w, i32_w]
     rfl
    refine two_ (i := 3) (j := 9) (Ni := some 28) (Nj := some 6) #[T,T,T,T,F,F,F,F,F,F,F,F,F] #[T,T,T,F,F,F,F,F,F,T,F,F,F] rfl rfl rfl rfl (two_of HT_.out q3_30) (by decide) (by decide) (fun K hK => ?_) (fun K hK => ?_)
    ·skip
     refine goes_ Try.func24 q3_30 rfl #[.agg #[.int .i64 a1_0, .int .i64 a1_1, .int .i64 a1_2, .int .i64 a1_3]] (by rfl) rfl rfl q3_7 ?_
     with_reducible refine (laws_toAct.calls a1_0 a1_1 a1_2 a1_3 t181 t182 t183 t184 _ A11.out).mono ?_
     rintro e w24 ⟨rfl, hb⟩
     refine ⟨_, rfl, ?_⟩
     have n0_ := Aside0.mk (Kd.R_below q3_14 hb)
     have n1_ := Aside0.mk (blk_below (g := gb175) (o := .cells #[.slice A0_0 l0_0.length c0_0] 31 (0, 0)) q3_1 hb)
     have n2_ := Aside0.mk (blk_below (g := gb176) (o := .cells #[.int .i64 a1_0, .int .i64 a1_1, .int .i64 a1_2, .int .i64 a1_3] 33 (0, 0)) q3_2 hb)
     have n3_ := Aside0.mk (below_step q3_9 hb)
     clear HO180
     clear BK175
     clear BK176
     clear HB
     have HO180 := n0_
     have BK175 := n1_
     have BK176 := n2_
     have HB := n3_
     clear n0_ n1_ n2_ n3_
     (try clear hb)
     (try clear hb2)
     (try clear hk)
     (try clear hi)
     obtain ⟨Ao25, co25, eo25⟩ := Kd.R_slice HO180.out
     (first | subst eo25 | (injection eo25 with f1_ f2_ f3_; have f4_ := f1_.symm; have f5_ := f3_.symm; clear f1_ f2_ f3_; subst f4_; subst f5_))
     refine hK.out _ _ ⟨(blk_cell BK175.out 0).trans rfl, (blk_cell BK176.out 0).trans rfl, (blk_cell BK176.out 1).trans rfl, (blk_cell BK176.out 2).trans rfl, (blk_cell BK176.out 3).trans rfl⟩ (fun hHeld => ?_)
     clear hK K
     refine norm_ (a' := ?_) ?_ ?_
     rotate_left
     ·show Act.put _ (some 28) _ = _
      simp only [Act.put, List.setIfInBounds_toArray, List.set_cons_zero, List.set_cons_succ, i64_w, i32_w]
      rfl
     refine two_ (i := 4) (j := 9) (Ni := some 29) (Nj := some 6) #[T,T,T,T,T,F,F,F,F,F,F,F,F] #[T,T,T,T,F,F,F,F,F,T,F,F,F] rfl rfl rfl rfl (two_of HT_.out q3_30) (by decide) (by decide) (fun K hK => ?_) (fun K hK => ?_)
     ·skip
      refine goes_ Try.func27 q3_30 rfl #[.agg #[.slice Ao25 t178.length co25], .agg #[.int .i64 t181, .int .i64 t182, .int .i64 t183, .int .i64 t184]] (by rfl) rfl rfl q3_7 ?_
      with_reducible refine (spec_Do.calls _ _ t178 t181 t182 t183 t184 t185 t188 t189 _ ?side1 ?side2 A12.out).mono ?_
      (case side1 => exact q3_52)
      (case side2 => exact (Kd.R_reads' HO180.out).2.1)
      rintro e w26 ⟨v186, rfl, ho0, hb⟩
      refine ⟨_, rfl, ?_⟩
      have n0_ := Aside0.mk (Kd.R_elder' q3_14 (Kd.R_base ho0) hb)
      have n1_ := Aside0.mk (Kd.R_lower (Kd.R_new' ho0 (Kd.R_lt q3_14)) (below_size q3_9))
      have n2_ := Aside0.mk (blk_below (g := gb175) (o := .cells #[.slice A0_0 l0_0.length c0_0] 31 (0, 0)) q3_1 hb)
      have n3_ := Aside0.mk (blk_below (g := gb176) (o := .cells #[.int .i64 a1_0, .int .i64 a1_1, .int .i64 a1_2, .int .i64 a1_3] 33 (0, 0)) q3_2 hb)
      have n4_ := Aside0.mk (below_step q3_9 hb)
      clear HO180
      clear BK175
      clear BK176
      clear HB
      have HO180 := n0_
      have HO187 := n1_
      have BK175 := n2_
      have BK176 := n3_
      have HB := n4_
      clear n0_ n1_ n2_ n3_ n4_
      (try clear hb)
      (try clear hb2)
      (try clear hk)
      (try clear hi)
      (try clear ho0)
      refine hK.out _ _ ⟨(blk_cell BK175.out 0).trans rfl, (blk_cell BK176.out 0).trans rfl, (blk_cell BK176.out 1).trans rfl, (blk_cell BK176.out 2).trans rfl, (blk_cell BK176.out 3).trans rfl⟩ (fun hHeld => ?_)
      clear hK K
      refine norm_ (a' := ?_) ?_ ?_
      rotate_left
      ·show Act.put _ (some 29) _ = _
       simp only [Act.put, List.setIfInBounds_toArray, List.set_cons_zero, List.set_cons_succ, i64_w, i32_w]
       rfl
      refine q3_p 5 24 #[T,T,T,T,T,T,F,F,F,F,F,F,F] ?_
      refine q3_p 6 30 #[T,T,T,T,T,T,T,F,F,F,F,F,F] ?_
      refine q3_p 7 31 #[T,T,T,T,T,T,T,T,F,F,F,F,F] ?_
      refine q3_p 8 32 #[T,T,T,T,T,T,T,T,T,F,F,F,F] ?_
      refine one_ (i := 9) (N := some 6) #[T,T,T,T,T,T,T,T,T,T,F,F,F] rfl rfl (one_of HT_.out q3_30) (by decide) (fun K hK => ?_)
      refine box_step ?hg (N := 6) ?hd (cs := #[.slice none 0 0]) (t := 36) ?hr ?_; (case hd => rfl); (case hg => rfl); (case hr => first | (go_simp; done) | (go_simp; rfl))
      intro gb190 hg w27 hbox hb
      have n0_ := Aside0.mk (Kd.R_below q3_14 hb)
      have n1_ := Aside0.mk (Kd.R_below q3_26 hb)
      have n2_ := Aside0.mk (blk_below (g := gb175) (o := .cells #[.slice A0_0 l0_0.length c0_0] 31 (0, 0)) q3_1 hb)
      have n3_ := Aside0.mk (blk_below (g := gb176) (o := .cells #[.int .i64 a1_0, .int .i64 a1_1, .int .i64 a1_2, .int .i64 a1_3] 33 (0, 0)) q3_2 hb)
      have n4_ := Aside0.mk (below_step q3_9 hb)
      have n5_ := Aside0.mk (hbox)
      have n6_ := Aside0.mk ((by rw [hg]; exact (below_size q3_9) : w.heap.size ≤ gb190))
      have n7_ := Aside0.mk ((by rw [hg]; exact (below_size q3_9) : w.heap.size ≤ gb190))
      have n8_ := Aside0.mk ((q3_17 : gb175 ≠ gb190))
      have n9_ := Aside0.mk ((q3_18 : gb190 ≠ gb175))
      have n10_ := Aside0.mk ((q3_15 : gb176 ≠ gb190))
      have n11_ := Aside0.mk ((q3_16 : gb190 ≠ gb176))
      clear HO180
      clear HO187
      clear BK175
      clear BK176
      clear HB
      have HO180 := n0_
      have HO187 := n1_
      have BK175 := n2_
      have BK176 := n3_
      have HB := n4_
      have BK190 := n5_
      have GW190 := n6_
      have GE190 := n7_
      have NB175_190 := n8_
      have NB190_175 := n9_
      have NB176_190 := n10_
      have NB190_176 := n11_
      clear n0_ n1_ n2_ n3_ n4_ n5_ n6_ n7_ n8_ n9_ n10_ n11_
      clear hb hbox hg
      refine hK.out _ _ ⟨(blk_cell BK175.out 0).trans rfl, (blk_cell BK176.out 0).trans rfl, (blk_cell BK176.out 1).trans rfl, (blk_cell BK176.out 2).trans rfl, (blk_cell BK176.out 3).trans rfl⟩ (fun hHeld => ?_)
      clear hK K
      refine norm_ (a' := ?_) ?_ ?_
      rotate_left
      ·show Act.put _ (some 6) _ = _
       simp only [Act.put, List.setIfInBounds_toArray, List.set_cons_zero, List.set_cons_succ, i64_w, i32_w]
       rfl
      exact norm_ q3_29 (hCont (.slice Ao25 t178.length co25, v186, gb190) _ ⟨hHeld, (by (with_reducible repeat (first | apply Kd.R_alloc | apply Kd.R_drewN | apply Kd.R_drew)); exact Kd.R_mono HO180.out (fun _ hk => hk.2)), (by (with_reducible repeat (first | apply Kd.R_alloc | apply Kd.R_drewN | apply Kd.R_drew)); exact Kd.R_mono HO187.out (fun _ hk => hk.2)), q3_1, q3_2, q3_3, GW190.out, GE190.out, NB175_190.out, NB190_175.out, NB176_190.out, NB190_176.out, q3_8⟩)
     ·skip
      refine box_step ?hg (N := 6) ?hd (cs := #[.slice none 0 0]) (t := 36) ?hr ?_; (case hd => rfl); (case hg => rfl); (case hr => first | (go_simp; done) | (go_simp; rfl))
      intro gb190 hg w25 hbox hb
      have n0_ := Aside0.mk (Kd.R_below q3_14 hb)
      have n1_ := Aside0.mk (blk_below (g := gb175) (o := .cells #[.slice A0_0 l0_0.length c0_0] 31 (0, 0)) q3_1 hb)
      have n2_ := Aside0.mk (blk_below (g := gb176) (o := .cells #[.int .i64 a1_0, .int .i64 a1_1, .int .i64 a1_2, .int .i64 a1_3] 33 (0, 0)) q3_2 hb)
      have n3_ := Aside0.mk (below_step q3_9 hb)
      have n4_ := Aside0.mk (hbox)
      have n5_ := Aside0.mk ((by rw [hg]; exact (below_size q3_9) : w.heap.size ≤ gb190))
      have n6_ := Aside0.mk ((by rw [hg]; exact (below_size q3_9) : w.heap.size ≤ gb190))
      have n7_ := Aside0.mk ((q3_17 : gb175 ≠ gb190))
      have n8_ := Aside0.mk ((q3_18 : gb190 ≠ gb175))
      have n9_ := Aside0.mk ((q3_15 : gb176 ≠ gb190))
      have n10_ := Aside0.mk ((q3_16 : gb190 ≠ gb176))
      clear HO180
      clear BK175
      clear BK176
      clear HB
      have HO180 := n0_
      have BK175 := n1_
      have BK176 := n2_
      have HB := n3_
      have BK190 := n4_
      have GW190 := n5_
      have GE190 := n6_
      have NB175_190 := n7_
      have NB190_175 := n8_
      have NB176_190 := n9_
      have NB190_176 := n10_
      clear n0_ n1_ n2_ n3_ n4_ n5_ n6_ n7_ n8_ n9_ n10_
      clear hb hbox hg
      obtain ⟨Ao26, co26, eo26⟩ := Kd.R_slice HO180.out
      (first | subst eo26 | (injection eo26 with f1_ f2_ f3_; have f4_ := f1_.symm; have f5_ := f3_.symm; clear f1_ f2_ f3_; subst f4_; subst f5_))
      refine hK.out _ _ ⟨(blk_cell BK175.out 0).trans rfl, (blk_cell BK176.out 0).trans rfl, (blk_cell BK176.out 1).trans rfl, (blk_cell BK176.out 2).trans rfl, (blk_cell BK176.out 3).trans rfl⟩ (fun hHeld => ?_)
      clear hK K
      refine norm_ (a' := ?_) ?_ ?_
      rotate_left
      ·show Act.put _ (some 6) _ = _
       simp only [Act.put, List.setIfInBounds_toArray, List.set_cons_zero, List.set_cons_succ, i64_w, i32_w]
       rfl
      refine one_ (i := 4) (N := some 29) #[T,T,T,T,T,F,F,F,F,T,F,F,F] rfl rfl (one_of HT_.out q3_30) (by decide) (fun K hK => ?_)
      refine goes_ Try.func27 q3_30 rfl #[.agg #[.slice Ao26 t178.length co26], .agg #[.int .i64 t181, .int .i64 t182, .int .i64 t183, .int .i64 t184]] (by rfl) rfl rfl q3_7 ?_
      with_reducible refine (spec_Do.calls _ _ t178 t181 t182 t183 t184 t185 t188 t189 _ ?side1 ?side2 A12.out).mono ?_
      (case side1 => exact q3_52)
      (case side2 => exact (Kd.R_reads' HO180.out).2.1)
      rintro e w27 ⟨v186, rfl, ho0, hb⟩
      refine ⟨_, rfl, ?_⟩
      have n0_ := Aside0.mk (Kd.R_elder' q3_14 (Kd.R_base ho0) hb)
      have n1_ := Aside0.mk (Kd.R_lower (Kd.R_new' ho0 (Kd.R_lt q3_14)) (below_size q3_8))
      have n2_ := Aside0.mk (blk_below (g := gb175) (o := .cells #[.slice A0_0 l0_0.length c0_0] 31 (0, 0)) q3_1 hb)
      have n3_ := Aside0.mk (blk_below (g := gb176) (o := .cells #[.int .i64 a1_0, .int .i64 a1_1, .int .i64 a1_2, .int .i64 a1_3] 33 (0, 0)) q3_2 hb)
      have n4_ := Aside0.mk (blk_below (g := gb190) (o := .cells #[.slice none 0 0] 36 (0, 0)) q3_3 hb)
      have n5_ := Aside0.mk (below_step q3_8 hb)
      clear HO180
      clear BK175
      clear BK176
      clear BK190
      clear HB
      have HO180 := n0_
      have HO187 := n1_
      have BK175 := n2_
      have BK176 := n3_
      have BK190 := n4_
      have HB := n5_
      clear n0_ n1_ n2_ n3_ n4_ n5_
      (try clear hb)
      (try clear hb2)
      (try clear hk)
      (try clear hi)
      (try clear ho0)
      refine hK.out _ _ ⟨(blk_cell BK175.out 0).trans rfl, (blk_cell BK176.out 0).trans rfl, (blk_cell BK176.out 1).trans rfl, (blk_cell BK176.out 2).trans rfl, (blk_cell BK176.out 3).trans rfl⟩ (fun hHeld => ?_)
      clear hK K
      refine norm_ (a' := ?_) ?_ ?_
      rotate_left
      ·show Act.put _ (some 29) _ = _
       simp only [Act.put, List.setIfInBounds_toArray, List.set_cons_zero, List.set_cons_succ, i64_w, i32_w]
       rfl
      refine q3_p 5 24 #[T,T,T,T,T,T,F,F,F,T,F,F,F] ?_
      refine q3_p 6 30 #[T,T,T,T,T,T,T,F,F,T,F,F,F] ?_
      refine q3_p 7 31 #[T,T,T,T,T,T,T,T,F,T,F,F,F] ?_
      refine q3_p 8 32 #[T,T,T,T,T,T,T,T,T,T,F,F,F] ?_
      exact norm_ q3_29 (hCont (.slice Ao26 t178.length co26, v186, gb190) _ ⟨hHeld, (by (with_reducible repeat (first | apply Kd.R_alloc | apply Kd.R_drewN | apply Kd.R_drew)); exact Kd.R_mono HO180.out (fun _ hk => hk.2)), (by (with_reducible repeat (first | apply Kd.R_alloc | apply Kd.R_drewN | apply Kd.R_drew)); exact Kd.R_mono HO187.out (fun _ hk => hk.2)), q3_1, q3_2, q3_3, GW190.out, GE190.out, NB175_190.out, NB190_175.out, NB176_190.out, NB190_176.out, q3_8⟩)
    ·skip
     refine box_step ?hg (N := 6) ?hd (cs := #[.slice none 0 0]) (t := 36) ?hr ?_; (case hd => rfl); (case hg => rfl); (case hr => first | (go_simp; done) | (go_simp; rfl))
     intro gb190 hg w24 hbox hb
     have n0_ := Aside0.mk (Kd.R_below q3_14 hb)
     have n1_ := Aside0.mk (blk_below (g := gb175) (o := .cells #[.slice A0_0 l0_0.length c0_0] 31 (0, 0)) q3_1 hb)
     have n2_ := Aside0.mk (blk_below (g := gb176) (o := .cells #[.int .i64 a1_0, .int .i64 a1_1, .int .i64 a1_2, .int .i64 a1_3] 33 (0, 0)) q3_2 hb)
     have n3_ := Aside0.mk (below_step q3_9 hb)
     have n4_ := Aside0.mk (hbox)
     have n5_ := Aside0.mk ((by rw [hg]; exact (below_size q3_9) : w.heap.size ≤ gb190))
     have n6_ := Aside0.mk ((by rw [hg]; exact (below_size q3_9) : w.heap.size ≤ gb190))
     have n7_ := Aside0.mk ((q3_17 : gb175 ≠ gb190))
     have n8_ := Aside0.mk ((q3_18 : gb190 ≠ gb175))
     have n9_ := Aside0.mk ((q3_15 : gb176 ≠ gb190))
     have n10_ := Aside0.mk ((q3_16 : gb190 ≠ gb176))
     clear HO180
     clear BK175
     clear BK176
     clear HB
     have HO180 := n0_
     have BK175 := n1_
     have BK176 := n2_
     have HB := n3_
     have BK190 := n4_
     have GW190 := n5_
     have GE190 := n6_
     have NB175_190 := n7_
     have NB190_175 := n8_
     have NB176_190 := n9_
     have NB190_176 := n10_
     clear n0_ n1_ n2_ n3_ n4_ n5_ n6_ n7_ n8_ n9_ n10_
     clear hb hbox hg
     refine hK.out _ _ ⟨(blk_cell BK175.out 0).trans rfl, (blk_cell BK176.out 0).trans rfl, (blk_cell BK176.out 1).trans rfl, (blk_cell BK176.out 2).trans rfl, (blk_cell BK176.out 3).trans rfl⟩ (fun hHeld => ?_)
     clear hK K
     refine norm_ (a' := ?_) ?_ ?_
     rotate_left
     ·show Act.put _ (some 6) _ = _
      simp only [Act.put, List.setIfInBounds_toArray, List.set_cons_zero, List.set_cons_succ, i64_w, i32_w]
      rfl
     refine one_ (i := 3) (N := some 28) #[T,T,T,T,F,F,F,F,F,T,F,F,F] rfl rfl (one_of HT_.out q3_30) (by decide) (fun K hK => ?_)
     refine goes_ Try.func24 q3_30 rfl #[.agg #[.int .i64 a1_0, .int .i64 a1_1, .int .i64 a1_2, .int .i64 a1_3]] (by rfl) rfl rfl q3_7 ?_
     with_reducible refine (laws_toAct.calls a1_0 a1_1 a1_2 a1_3 t181 t182 t183 t184 _ A11.out).mono ?_
     rintro e w25 ⟨rfl, hb⟩
     refine ⟨_, rfl, ?_⟩
     have n0_ := Aside0.mk (Kd.R_below q3_14 hb)
     have n1_ := Aside0.mk (blk_below (g := gb175) (o := .cells #[.slice A0_0 l0_0.length c0_0] 31 (0, 0)) q3_1 hb)
     have n2_ := Aside0.mk (blk_below (g := gb176) (o := .cells #[.int .i64 a1_0, .int .i64 a1_1, .int .i64 a1_2, .int .i64 a1_3] 33 (0, 0)) q3_2 hb)
     have n3_ := Aside0.mk (blk_below (g := gb190) (o := .cells #[.slice none 0 0] 36 (0, 0)) q3_3 hb)
     have n4_ := Aside0.mk (below_step q3_8 hb)
     clear HO180
     clear BK175
     clear BK176
     clear BK190
     clear HB
     have HO180 := n0_
     have BK175 := n1_
     have BK176 := n2_
     have BK190 := n3_
     have HB := n4_
     clear n0_ n1_ n2_ n3_ n4_
     (try clear hb)
     (try clear hb2)
     (try clear hk)
     (try clear hi)
     obtain ⟨Ao26, co26, eo26⟩ := Kd.R_slice HO180.out
     (first | subst eo26 | (injection eo26 with f1_ f2_ f3_; have f4_ := f1_.symm; have f5_ := f3_.symm; clear f1_ f2_ f3_; subst f4_; subst f5_))
     refine hK.out _ _ ⟨(blk_cell BK175.out 0).trans rfl, (blk_cell BK176.out 0).trans rfl, (blk_cell BK176.out 1).trans rfl, (blk_cell BK176.out 2).trans rfl, (blk_cell BK176.out 3).trans rfl⟩ (fun hHeld => ?_)
     clear hK K
     refine norm_ (a' := ?_) ?_ ?_
     rotate_left
     ·show Act.put _ (some 28) _ = _
      simp only [Act.put, List.setIfInBounds_toArray, List.set_cons_zero, List.set_cons_succ, i64_w, i32_w]
      rfl
     refine one_ (i := 4) (N := some 29) #[T,T,T,T,T,F,F,F,F,T,F,F,F] rfl rfl (one_of HT_.out q3_30) (by decide) (fun K hK => ?_)
     refine goes_ Try.func27 q3_30 rfl #[.agg #[.slice Ao26 t178.length co26], .agg #[.int .i64 t181, .int .i64 t182, .int .i64 t183, .int .i64 t184]] (by rfl) rfl rfl q3_7 ?_
     with_reducible refine (spec_Do.calls _ _ t178 t181 t182 t183 t184 t185 t188 t189 _ ?side1 ?side2 A12.out).mono ?_
     (case side1 => exact q3_52)
     (case side2 => exact (Kd.R_reads' HO180.out).2.1)
     rintro e w27 ⟨v186, rfl, ho0, hb⟩
     refine ⟨_, rfl, ?_⟩
     have n0_ := Aside0.mk (Kd.R_elder' q3_14 (Kd.R_base ho0) hb)
     have n1_ := Aside0.mk (Kd.R_lower (Kd.R_new' ho0 (Kd.R_lt q3_14)) (below_size q3_8))
     have n2_ := Aside0.mk (blk_below (g := gb175) (o := .cells #[.slice A0_0 l0_0.length c0_0] 31 (0, 0)) q3_1 hb)
     have n3_ := Aside0.mk (blk_below (g := gb176) (o := .cells #[.int .i64 a1_0, .int .i64 a1_1, .int .i64 a1_2, .int .i64 a1_3] 33 (0, 0)) q3_2 hb)
     have n4_ := Aside0.mk (blk_below (g := gb190) (o := .cells #[.slice none 0 0] 36 (0, 0)) q3_3 hb)
     have n5_ := Aside0.mk (below_step q3_8 hb)
     clear HO180
     clear BK175
     clear BK176
     clear BK190
     clear HB
     have HO180 := n0_
     have HO187 := n1_
     have BK175 := n2_
     have BK176 := n3_
     have BK190 := n4_
     have HB := n5_
     clear n0_ n1_ n2_ n3_ n4_ n5_
     (try clear hb)
     (try clear hb2)
     (try clear hk)
     (try clear hi)
     (try clear ho0)
     refine hK.out _ _ ⟨(blk_cell BK175.out 0).trans rfl, (blk_cell BK176.out 0).trans rfl, (blk_cell BK176.out 1).trans rfl, (blk_cell BK176.out 2).trans rfl, (blk_cell BK176.out 3).trans rfl⟩ (fun hHeld => ?_)
     clear hK K
     refine norm_ (a' := ?_) ?_ ?_
     rotate_left
     ·show Act.put _ (some 29) _ = _
      simp only [Act.put, List.setIfInBounds_toArray, List.set_cons_zero, List.set_cons_succ, i64_w, i32_w]
      rfl
     refine q3_p 5 24 #[T,T,T,T,T,T,F,F,F,T,F,F,F] ?_
     refine q3_p 6 30 #[T,T,T,T,T,T,T,F,F,T,F,F,F] ?_
     refine q3_p 7 31 #[T,T,T,T,T,T,T,T,F,T,F,F,F] ?_
     refine q3_p 8 32 #[T,T,T,T,T,T,T,T,T,T,F,F,F] ?_
     exact norm_ q3_29 (hCont (.slice Ao26 t178.length co26, v186, gb190) _ ⟨hHeld, (by (with_reducible repeat (first | apply Kd.R_alloc | apply Kd.R_drewN | apply Kd.R_drew)); exact Kd.R_mono HO180.out (fun _ hk => hk.2)), (by (with_reducible repeat (first | apply Kd.R_alloc | apply Kd.R_drewN | apply Kd.R_drew)); exact Kd.R_mono HO187.out (fun _ hk => hk.2)), q3_1, q3_2, q3_3, GW190.out, GE190.out, NB175_190.out, NB190_175.out, NB176_190.out, NB190_176.out, q3_8⟩)
   ·skip
    refine box_step ?hg (N := 6) ?hd (cs := #[.slice none 0 0]) (t := 36) ?hr ?_; (case hd => rfl); (case hg => rfl); (case hr => first | (go_simp; done) | (go_simp; rfl))
    intro gb190 hg w23 hbox hb
    have n0_ := Aside0.mk (blk_below (g := gb175) (o := .cells #[.slice A0_0 l0_0.length c0_0] 31 (0, 0)) q3_1 hb)
    have n1_ := Aside0.mk (blk_below (g := gb176) (o := .cells #[.int .i64 a1_0, .int .i64 a1_1, .int .i64 a1_2, .int .i64 a1_3] 33 (0, 0)) q3_2 hb)
    have n2_ := Aside0.mk (below_step q3_9 hb)
    have n3_ := Aside0.mk (hbox)
    have n4_ := Aside0.mk ((by rw [hg]; exact (below_size q3_9) : w.heap.size ≤ gb190))
    have n5_ := Aside0.mk ((by rw [hg]; exact (below_size q3_9) : w.heap.size ≤ gb190))
    have n6_ := Aside0.mk ((q3_17 : gb175 ≠ gb190))
    have n7_ := Aside0.mk ((q3_18 : gb190 ≠ gb175))
    have n8_ := Aside0.mk ((q3_15 : gb176 ≠ gb190))
    have n9_ := Aside0.mk ((q3_16 : gb190 ≠ gb176))
    clear BK175
    clear BK176
    clear HB
    have BK175 := n0_
    have BK176 := n1_
    have HB := n2_
    have BK190 := n3_
    have GW190 := n4_
    have GE190 := n5_
    have NB175_190 := n6_
    have NB190_175 := n7_
    have NB176_190 := n8_
    have NB190_176 := n9_
    clear n0_ n1_ n2_ n3_ n4_ n5_ n6_ n7_ n8_ n9_
    clear hb hbox hg
    refine hK.out _ _ ⟨(blk_cell BK175.out 0).trans rfl, (blk_cell BK176.out 0).trans rfl, (blk_cell BK176.out 1).trans rfl, (blk_cell BK176.out 2).trans rfl, (blk_cell BK176.out 3).trans rfl⟩ (fun hHeld => ?_)
    clear hK K
    refine norm_ (a' := ?_) ?_ ?_
    rotate_left
    ·show Act.put _ (some 6) _ = _
     simp only [Act.put, List.setIfInBounds_toArray, List.set_cons_zero, List.set_cons_succ, i64_w, i32_w]
     rfl
    refine one_ (i := 1) (N := some 26) #[T,T,T,F,F,F,F,F,F,T,F,F,F] rfl rfl (one_of HT_.out q3_30) (by decide) (fun K hK => ?_)
    refine goes_ Try.func23 q3_30 rfl #[.agg #[.slice A0_0 l0_0.length c0_0]] (by rfl) rfl rfl q3_7 ?_
    with_reducible refine (laws_toMem.calls k _ _ l0_0 t178 _ ?side1 ?side2 A10.out).mono ?_
    (case side1 => exact q3_27)
    (case side2 => exact HC0_0.out)
    rintro e w24 ⟨v179, rfl, ho0, hb⟩
    refine ⟨_, rfl, ?_⟩
    have n0_ := Aside0.mk (Kd.R_lower ho0 (below_size q3_8))
    have n1_ := Aside0.mk (blk_below (g := gb175) (o := .cells #[.slice A0_0 l0_0.length c0_0] 31 (0, 0)) q3_1 hb)
    have n2_ := Aside0.mk (blk_below (g := gb176) (o := .cells #[.int .i64 a1_0, .int .i64 a1_1, .int .i64 a1_2, .int .i64 a1_3] 33 (0, 0)) q3_2 hb)
    have n3_ := Aside0.mk (blk_below (g := gb190) (o := .cells #[.slice none 0 0] 36 (0, 0)) q3_3 hb)
    have n4_ := Aside0.mk (below_step q3_8 hb)
    clear BK175
    clear BK176
    clear BK190
    clear HB
    have HO180 := n0_
    have BK175 := n1_
    have BK176 := n2_
    have BK190 := n3_
    have HB := n4_
    clear n0_ n1_ n2_ n3_ n4_
    (try clear hb)
    (try clear hb2)
    (try clear hk)
    (try clear hi)
    (try clear ho0)
    refine hK.out _ _ ⟨(blk_cell BK175.out 0).trans rfl, (blk_cell BK176.out 0).trans rfl, (blk_cell BK176.out 1).trans rfl, (blk_cell BK176.out 2).trans rfl, (blk_cell BK176.out 3).trans rfl⟩ (fun hHeld => ?_)
    clear hK K
    refine norm_ (a' := ?_) ?_ ?_
    rotate_left
    ·show Act.put _ (some 26) _ = _
     simp only [Act.put, List.setIfInBounds_toArray, List.set_cons_zero, List.set_cons_succ, i64_w, i32_w]
     rfl
    refine one_ (i := 3) (N := some 28) #[T,T,T,T,F,F,F,F,F,T,F,F,F] rfl rfl (one_of HT_.out q3_30) (by decide) (fun K hK => ?_)
    refine goes_ Try.func24 q3_30 rfl #[.agg #[.int .i64 a1_0, .int .i64 a1_1, .int .i64 a1_2, .int .i64 a1_3]] (by rfl) rfl rfl q3_7 ?_
    with_reducible refine (laws_toAct.calls a1_0 a1_1 a1_2 a1_3 t181 t182 t183 t184 _ A11.out).mono ?_
    rintro e w25 ⟨rfl, hb⟩
    refine ⟨_, rfl, ?_⟩
    have n0_ := Aside0.mk (Kd.R_below q3_14 hb)
    have n1_ := Aside0.mk (blk_below (g := gb175) (o := .cells #[.slice A0_0 l0_0.length c0_0] 31 (0, 0)) q3_1 hb)
    have n2_ := Aside0.mk (blk_below (g := gb176) (o := .cells #[.int .i64 a1_0, .int .i64 a1_1, .int .i64 a1_2, .int .i64 a1_3] 33 (0, 0)) q3_2 hb)
    have n3_ := Aside0.mk (blk_below (g := gb190) (o := .cells #[.slice none 0 0] 36 (0, 0)) q3_3 hb)
    have n4_ := Aside0.mk (below_step q3_8 hb)
    clear HO180
    clear BK175
    clear BK176
    clear BK190
    clear HB
    have HO180 := n0_
    have BK175 := n1_
    have BK176 := n2_
    have BK190 := n3_
    have HB := n4_
    clear n0_ n1_ n2_ n3_ n4_
    (try clear hb)
    (try clear hb2)
    (try clear hk)
    (try clear hi)
    obtain ⟨Ao26, co26, eo26⟩ := Kd.R_slice HO180.out
    (first | subst eo26 | (injection eo26 with f1_ f2_ f3_; have f4_ := f1_.symm; have f5_ := f3_.symm; clear f1_ f2_ f3_; subst f4_; subst f5_))
    refine hK.out _ _ ⟨(blk_cell BK175.out 0).trans rfl, (blk_cell BK176.out 0).trans rfl, (blk_cell BK176.out 1).trans rfl, (blk_cell BK176.out 2).trans rfl, (blk_cell BK176.out 3).trans rfl⟩ (fun hHeld => ?_)
    clear hK K
    refine norm_ (a' := ?_) ?_ ?_
    rotate_left
    ·show Act.put _ (some 28) _ = _
     simp only [Act.put, List.setIfInBounds_toArray, List.set_cons_zero, List.set_cons_succ, i64_w, i32_w]
     rfl
    refine one_ (i := 4) (N := some 29) #[T,T,T,T,T,F,F,F,F,T,F,F,F] rfl rfl (one_of HT_.out q3_30) (by decide) (fun K hK => ?_)
    refine goes_ Try.func27 q3_30 rfl #[.agg #[.slice Ao26 t178.length co26], .agg #[.int .i64 t181, .int .i64 t182, .int .i64 t183, .int .i64 t184]] (by rfl) rfl rfl q3_7 ?_
    with_reducible refine (spec_Do.calls _ _ t178 t181 t182 t183 t184 t185 t188 t189 _ ?side1 ?side2 A12.out).mono ?_
    (case side1 => exact q3_52)
    (case side2 => exact (Kd.R_reads' HO180.out).2.1)
    rintro e w27 ⟨v186, rfl, ho0, hb⟩
    refine ⟨_, rfl, ?_⟩
    have n0_ := Aside0.mk (Kd.R_elder' q3_14 (Kd.R_base ho0) hb)
    have n1_ := Aside0.mk (Kd.R_lower (Kd.R_new' ho0 (Kd.R_lt q3_14)) (below_size q3_8))
    have n2_ := Aside0.mk (blk_below (g := gb175) (o := .cells #[.slice A0_0 l0_0.length c0_0] 31 (0, 0)) q3_1 hb)
    have n3_ := Aside0.mk (blk_below (g := gb176) (o := .cells #[.int .i64 a1_0, .int .i64 a1_1, .int .i64 a1_2, .int .i64 a1_3] 33 (0, 0)) q3_2 hb)
    have n4_ := Aside0.mk (blk_below (g := gb190) (o := .cells #[.slice none 0 0] 36 (0, 0)) q3_3 hb)
    have n5_ := Aside0.mk (below_step q3_8 hb)
    clear HO180
    clear BK175
    clear BK176
    clear BK190
    clear HB
    have HO180 := n0_
    have HO187 := n1_
    have BK175 := n2_
    have BK176 := n3_
    have BK190 := n4_
    have HB := n5_
    clear n0_ n1_ n2_ n3_ n4_ n5_
    (try clear hb)
    (try clear hb2)
    (try clear hk)
    (try clear hi)
    (try clear ho0)
    refine hK.out _ _ ⟨(blk_cell BK175.out 0).trans rfl, (blk_cell BK176.out 0).trans rfl, (blk_cell BK176.out 1).trans rfl, (blk_cell BK176.out 2).trans rfl, (blk_cell BK176.out 3).trans rfl⟩ (fun hHeld => ?_)
    clear hK K
    refine norm_ (a' := ?_) ?_ ?_
    rotate_left
    ·show Act.put _ (some 29) _ = _
     simp only [Act.put, List.setIfInBounds_toArray, List.set_cons_zero, List.set_cons_succ, i64_w, i32_w]
     rfl
    refine q3_p 5 24 #[T,T,T,T,T,T,F,F,F,T,F,F,F] ?_
    refine q3_p 6 30 #[T,T,T,T,T,T,T,F,F,T,F,F,F] ?_
    refine q3_p 7 31 #[T,T,T,T,T,T,T,T,F,T,F,F,F] ?_
    refine q3_p 8 32 #[T,T,T,T,T,T,T,T,T,T,F,F,F] ?_
    exact norm_ q3_29 (hCont (.slice Ao26 t178.length co26, v186, gb190) _ ⟨hHeld, (by (with_reducible repeat (first | apply Kd.R_alloc | apply Kd.R_drewN | apply Kd.R_drew)); exact Kd.R_mono HO180.out (fun _ hk => hk.2)), (by (with_reducible repeat (first | apply Kd.R_alloc | apply Kd.R_drewN | apply Kd.R_drew)); exact Kd.R_mono HO187.out (fun _ hk => hk.2)), q3_1, q3_2, q3_3, GW190.out, GE190.out, NB175_190.out, NB190_175.out, NB176_190.out, NB190_176.out, q3_8⟩)
  rintro ⟨v179, v186, gb190⟩ w28 ⟨hS_, h0_, h1_, h2_, h3_, h4_, h5_, h6_, h7_, h8_, h9_, h10_, h11_⟩
  have n0_ : Aside0 (Kd.R (Kd.int .i64) 3 w28 w.heap.size (fun k_ => some k_ ≠ (v186 : Value).ownBlock) v179 t178) := ⟨h0_⟩
  have n1_ : Aside0 (Kd.R (Kd.int .i64) 3 w28 w.heap.size (fun k_ => some k_ ≠ (v179 : Value).ownBlock) v186 t185) := ⟨h1_⟩
  have n2_ : Aside0 (w28.heap[gb175]? = some (.cells #[.slice A0_0 l0_0.length c0_0] 31 (0, 0))) := ⟨h2_⟩
  have n3_ : Aside0 (w28.heap[gb176]? = some (.cells #[.int .i64 a1_0, .int .i64 a1_1, .int .i64 a1_2, .int .i64 a1_3] 33 (0, 0))) := ⟨h3_⟩
  have n4_ : Aside0 (w28.heap[gb190]? = some (.cells #[.slice none 0 0] 36 (0, 0))) := ⟨h4_⟩
  have n5_ : Aside0 (w.heap.size ≤ gb190) := ⟨h5_⟩
  have n6_ : Aside0 (w.heap.size ≤ gb190) := ⟨h6_⟩
  have n7_ : Aside0 (gb175 ≠ gb190) := ⟨h7_⟩
  have n8_ : Aside0 (gb190 ≠ gb175) := ⟨h8_⟩
  have n9_ : Aside0 (gb176 ≠ gb190) := ⟨h9_⟩
  have n10_ : Aside0 (gb190 ≠ gb176) := ⟨h10_⟩
  have n11_ : Aside0 (Below w.heap.size w w28) := ⟨h11_⟩
  clear BK175
  clear BK176
  clear HB
  clear h0_ h1_ h2_ h3_ h4_ h5_ h6_ h7_ h8_ h9_ h10_ h11_
  have HO180 := n0_
  have HO187 := n1_
  have BK175 := n2_
  have BK176 := n3_
  have BK190 := n4_
  have GW190 := n5_
  have GE190 := n6_
  have NB175_190 := n7_
  have NB190_175 := n8_
  have NB176_190 := n9_
  have NB190_176 := n10_
  have HB := n11_
  clear n0_ n1_ n2_ n3_ n4_ n5_ n6_ n7_ n8_ n9_ n10_ n11_
  have hHeld : w28.cell? ⟨gb175, 0, none⟩ = some (.slice A0_0 l0_0.length c0_0) ∧ w28.cell? ⟨gb176, 0, none⟩ = some (.int .i64 a1_0) ∧ w28.cell? ⟨gb176, 1, none⟩ = some (.int .i64 a1_1) ∧ w28.cell? ⟨gb176, 2, none⟩ = some (.int .i64 a1_2) ∧ w28.cell? ⟨gb176, 3, none⟩ = some (.int .i64 a1_3) := hS_
  obtain ⟨Ao29, co29, eo29⟩ := Kd.R_slice HO187.out
  (first | subst eo29 | (injection eo29 with f1_ f2_ f3_; have f4_ := f1_.symm; have f5_ := f3_.symm; clear f1_ f2_ f3_; subst f4_; subst f5_))
  refine norm_ (a' := ?_) ?_ ?_
  rotate_left
  ·simp only [putAll, Act.put, List.setIfInBounds_toArray, List.set_cons_zero, List.set_cons_succ]
   rfl
  refine one_ (i := 10) (N := none) #[T,T,T,T,T,T,T,T,T,T,T,F,F] rfl rfl (one_of HT_.out q3_30) (by decide) (fun K hK => ?_)
  have hs30 : w28.cell? ⟨gb190, 0, none⟩ = some (.slice none 0 0) := (blk_cell BK190.out 0).trans rfl
  have hfs30 := blk_frozen BK190.out 0
  have hns30_0 := NB175_190.out
  have hns30_1 := NB176_190.out
  have hms30_0 := NB190_175.out
  have hms30_1 := NB190_176.out
  refine skip_ (w1 := ?_) (by rfl) rfl ?_ ?_
  rotate_left
  ·go_simp
   rfl
  refine hK.out _ _ ⟨((cell_far (p := ⟨gb190, _, none⟩) NB175_190.out _).trans (hHeld.1)), ((cell_far (p := ⟨gb190, _, none⟩) NB176_190.out _).trans (hHeld.2.1)), ((cell_far (p := ⟨gb190, _, none⟩) NB176_190.out _).trans (hHeld.2.2.1)), ((cell_far (p := ⟨gb190, _, none⟩) NB176_190.out _).trans (hHeld.2.2.2.1)), ((cell_far (p := ⟨gb190, _, none⟩) NB176_190.out _).trans (hHeld.2.2.2.2))⟩ (fun hHeld => ?_)
  clear hK K
  refine q3_p 11 7 #[T,T,T,T,T,T,T,T,T,T,T,T,F] ?_
  refine q3_p 12 8 #[T,T,T,T,T,T,T,T,T,T,T,T,T] ?_
  refine done_ (done_of HT_.out q3_30) ?_
  have hnb31 := NB175_190.out
  have hnc31 := NB190_175.out
  have hcz32_0 : w28.cell? ⟨gb175, 0, none⟩ = some (.slice A0_0 l0_0.length c0_0) := (blk_cell BK175.out 0).trans rfl
  have hfz32_0 := blk_frozen BK175.out 0
  try go_wp2_with (first | ((with_reducible refine gate_callee (f := 23) rfl ?_); refine goesL_ (some 34) rfl rfl Try.func23 q3_30 rfl #[.agg #[.slice A0_0 l0_0.length c0_0]] rfl q3_7 ?_; (with_reducible refine (laws_toMem.calls k _ _ l0_0 t191 _ ?side1 ?side2 A13.out).mono ?_); (case side1 => exact Kd.C_below HR0_0.out q3_8); (case side2 => exact HC0_0.out); rintro e w33 ⟨v192, rfl, ho0, hb⟩; refine ⟨_, rfl, ?_⟩; have n0_ := Aside0.mk (Kd.R_elder' (by (with_reducible repeat (first | apply Kd.R_alloc | apply Kd.R_drewN | apply Kd.R_drew)); exact (Kd.R_mono (Kd.R_far (p := ⟨gb190, 0, none⟩) (Kd.R_types HO180.out BK190.out (by decide)) (fun _ hk => hk.2) (.slice Ao29 t185.length co29)) (fun _ h_ => h_.1))) (Kd.R_base ho0) hb); have n1_ := Aside0.mk (Kd.R_elder' (by (with_reducible repeat (first | apply Kd.R_alloc | apply Kd.R_drewN | apply Kd.R_drew)); exact (Kd.R_mono (Kd.R_far (p := ⟨gb190, 0, none⟩) (Kd.R_types HO187.out BK190.out (by decide)) (fun _ hk => hk.2) (.slice Ao29 t185.length co29)) (fun _ h_ => h_.1))) (Kd.R_base ho0) hb); have n2_ := Aside0.mk (Kd.R_lower (Kd.R_new' (Kd.R_new' ho0 (Kd.R_lt (by (with_reducible repeat (first | apply Kd.R_alloc | apply Kd.R_drewN | apply Kd.R_drew)); exact (Kd.R_mono (Kd.R_far (p := ⟨gb190, 0, none⟩) (Kd.R_types HO180.out BK190.out (by decide)) (fun _ hk => hk.2) (.slice Ao29 t185.length co29)) (fun _ h_ => h_.1))))) (Kd.R_lt (by (with_reducible repeat (first | apply Kd.R_alloc | apply Kd.R_drewN | apply Kd.R_drew)); exact (Kd.R_mono (Kd.R_far (p := ⟨gb190, 0, none⟩) (Kd.R_types HO187.out BK190.out (by decide)) (fun _ hk => hk.2) (.slice Ao29 t185.length co29)) (fun _ h_ => h_.1))))) (below_size q3_8)); have n3_ := Aside0.mk (blk_below (g := gb175) (o := .cells #[.slice A0_0 l0_0.length c0_0] 31 (0, 0)) (by (with_reducible repeat (first | refine blk_drewN ?_ _ | refine blk_drew ?_ | refine blk_alloc ?_ _)); refine blk_far ?_ NB175_190.out _; (with_reducible repeat (first | refine blk_drewN ?_ _ | refine blk_drew ?_ | refine blk_alloc ?_ _)); exact BK175.out) hb); have n4_ := Aside0.mk (blk_below (g := gb176) (o := .cells #[.int .i64 a1_0, .int .i64 a1_1, .int .i64 a1_2, .int .i64 a1_3] 33 (0, 0)) (by (with_reducible repeat (first | refine blk_drewN ?_ _ | refine blk_drew ?_ | refine blk_alloc ?_ _)); refine blk_far ?_ NB176_190.out _; (with_reducible repeat (first | refine blk_drewN ?_ _ | refine blk_drew ?_ | refine blk_alloc ?_ _)); exact BK176.out) hb); have n5_ := Aside0.mk (blk_below (g := gb190) (o := .cells #[.slice Ao29 t185.length co29] 36 (0, 0)) (by (with_reducible repeat (first | refine blk_drewN ?_ _ | refine blk_drew ?_ | refine blk_alloc ?_ _)); refine blk_put (cs := #[.slice none 0 0]) ?_ 0 _ rfl; (with_reducible repeat (first | refine blk_drewN ?_ _ | refine blk_drew ?_ | refine blk_alloc ?_ _)); exact BK190.out) hb); have n6_ := Aside0.mk (below_step q3_8 hb); clear HO180; clear HO187; clear BK175; clear BK176; clear BK190; clear HB; have HO180 := n0_; have HO187 := n1_; have HO193 := n2_; have BK175 := n3_; have BK176 := n4_; have BK190 := n5_; have HB := n6_; clear n0_ n1_ n2_ n3_ n4_ n5_ n6_; (try clear hb); (try clear hb2); (try clear hk); (try clear hi); (try clear ho0)) | ((with_reducible refine gate_dst (N := 9) rfl ?_); refine box_event ?hg (N := 9) ?hd (cs := #[.slice none 0 0]) (t := 36) ?hr ?_; (case hd => rfl); (case hg => rfl); (case hr => first | (go_simp; done) | (go_simp; rfl)); intro gb194 hg w34 hbox hb; have n0_ := Aside0.mk (Kd.R_below q3_14 hb); have n1_ := Aside0.mk (Kd.R_below q3_26 hb); have n2_ := Aside0.mk (Kd.R_below q3_28 hb); have n3_ := Aside0.mk (blk_below (g := gb175) (o := .cells #[.slice A0_0 l0_0.length c0_0] 31 (0, 0)) q3_1 hb); have n4_ := Aside0.mk (blk_below (g := gb176) (o := .cells #[.int .i64 a1_0, .int .i64 a1_1, .int .i64 a1_2, .int .i64 a1_3] 33 (0, 0)) q3_2 hb); have n5_ := Aside0.mk (blk_below (g := gb190) (o := .cells #[.slice Ao29 t185.length co29] 36 (0, 0)) q3_3 hb); have n6_ := Aside0.mk (below_step q3_8 hb); have n7_ := Aside0.mk (hbox); have n8_ := Aside0.mk ((by rw [hg]; exact (below_size q3_8) : w.heap.size ≤ gb194)); have n9_ := Aside0.mk ((by rw [hg]; exact (below_size q3_8) : w.heap.size ≤ gb194)); have n10_ := Aside0.mk ((q3_17 : gb175 ≠ gb194)); have n11_ := Aside0.mk ((q3_18 : gb194 ≠ gb175)); have n12_ := Aside0.mk ((q3_15 : gb176 ≠ gb194)); have n13_ := Aside0.mk ((q3_16 : gb194 ≠ gb176)); have n14_ := Aside0.mk ((q3_33 : gb190 ≠ gb194)); have n15_ := Aside0.mk ((q3_34 : gb194 ≠ gb190)); clear HO180; clear HO187; clear HO193; clear BK175; clear BK176; clear BK190; clear HB; have HO180 := n0_; have HO187 := n1_; have HO193 := n2_; have BK175 := n3_; have BK176 := n4_; have BK190 := n5_; have HB := n6_; have BK194 := n7_; have GW194 := n8_; have GE194 := n9_; have NB175_194 := n10_; have NB194_175 := n11_; have NB176_194 := n12_; have NB194_176 := n13_; have NB190_194 := n14_; have NB194_190 := n15_; clear n0_ n1_ n2_ n3_ n4_ n5_ n6_ n7_ n8_ n9_ n10_ n11_ n12_ n13_ n14_ n15_; clear hb hbox hg; obtain ⟨Ao35, co35, eo35⟩ := Kd.R_slice HO193.out; subst eo35; have hnb36 := NB194_175.out; have hnc36 := NB175_194.out; have hnb37 := NB194_176.out; have hnc37 := NB176_194.out; have hnb38 := NB194_190.out; have hnc38 := NB190_194.out; have hcz39_0 : w34.cell? ⟨gb194, 0, none⟩ = some (.slice none 0 0) := (blk_cell BK194.out 0).trans rfl; have hfz39_0 := blk_frozen BK194.out 0))
  have n0_ : Aside0 (Kd.R (Kd.int .i64) 3 (w34.setCell ⟨gb194, 0, none⟩ (.slice Ao35 t191.length co35)) w.heap.size (fun k_ => some k_ ≠ (.slice Ao29 t185.length co29 : Value).ownBlock ∧ some k_ ≠ (.slice Ao35 t191.length co35 : Value).ownBlock) v179 t178) := ⟨by (with_reducible repeat (first | apply Kd.R_alloc | apply Kd.R_drewN | apply Kd.R_drew)); exact Kd.R_mono (Kd.R_far (p := ⟨gb194, 0, none⟩) (Kd.R_types HO180.out BK194.out (by decide)) (fun _ hk => hk.2) (.slice Ao35 t191.length co35)) (fun _ hk => ⟨hk.1.1, hk.1.2⟩)⟩
  have n1_ : Aside0 (Kd.R (Kd.int .i64) 3 (w34.setCell ⟨gb194, 0, none⟩ (.slice Ao35 t191.length co35)) w.heap.size (fun k_ => some k_ ≠ (v179 : Value).ownBlock ∧ some k_ ≠ (.slice Ao35 t191.length co35 : Value).ownBlock) (.slice Ao29 t185.length co29) t185) := ⟨by (with_reducible repeat (first | apply Kd.R_alloc | apply Kd.R_drewN | apply Kd.R_drew)); exact Kd.R_mono (Kd.R_far (p := ⟨gb194, 0, none⟩) (Kd.R_types HO187.out BK194.out (by decide)) (fun _ hk => hk.2) (.slice Ao35 t191.length co35)) (fun _ hk => ⟨hk.1.1, hk.1.2⟩)⟩
  have n2_ : Aside0 (Kd.R (Kd.int .i64) 3 (w34.setCell ⟨gb194, 0, none⟩ (.slice Ao35 t191.length co35)) w.heap.size (fun k_ => some k_ ≠ (v179 : Value).ownBlock ∧ some k_ ≠ (.slice Ao29 t185.length co29 : Value).ownBlock) (.slice Ao35 t191.length co35) t191) := ⟨by (with_reducible repeat (first | apply Kd.R_alloc | apply Kd.R_drewN | apply Kd.R_drew)); exact Kd.R_mono (Kd.R_far (p := ⟨gb194, 0, none⟩) (Kd.R_types HO193.out BK194.out (by decide)) (fun _ hk => hk.2) (.slice Ao35 t191.length co35)) (fun _ hk => ⟨hk.1.1.2, hk.1.2⟩)⟩
  have n3_ : Aside0 ((w34.setCell ⟨gb194, 0, none⟩ (.slice Ao35 t191.length co35)).heap[gb175]? = some (.cells #[.slice A0_0 l0_0.length c0_0] 31 (0, 0))) := ⟨by (with_reducible repeat (first | refine blk_drewN ?_ _ | refine blk_drew ?_ | refine blk_alloc ?_ _)); refine blk_far ?_ NB175_194.out _; (with_reducible repeat (first | refine blk_drewN ?_ _ | refine blk_drew ?_ | refine blk_alloc ?_ _)); exact BK175.out⟩
  have n4_ : Aside0 ((w34.setCell ⟨gb194, 0, none⟩ (.slice Ao35 t191.length co35)).heap[gb176]? = some (.cells #[.int .i64 a1_0, .int .i64 a1_1, .int .i64 a1_2, .int .i64 a1_3] 33 (0, 0))) := ⟨by (with_reducible repeat (first | refine blk_drewN ?_ _ | refine blk_drew ?_ | refine blk_alloc ?_ _)); refine blk_far ?_ NB176_194.out _; (with_reducible repeat (first | refine blk_drewN ?_ _ | refine blk_drew ?_ | refine blk_alloc ?_ _)); exact BK176.out⟩
  have n5_ : Aside0 ((w34.setCell ⟨gb194, 0, none⟩ (.slice Ao35 t191.length co35)).heap[gb190]? = some (.cells #[.slice Ao29 t185.length co29] 36 (0, 0))) := ⟨by (with_reducible repeat (first | refine blk_drewN ?_ _ | refine blk_drew ?_ | refine blk_alloc ?_ _)); refine blk_far ?_ NB190_194.out _; (with_reducible repeat (first | refine blk_drewN ?_ _ | refine blk_drew ?_ | refine blk_alloc ?_ _)); exact BK190.out⟩
  have n6_ : Aside0 ((w34.setCell ⟨gb194, 0, none⟩ (.slice Ao35 t191.length co35)).heap[gb194]? = some (.cells #[.slice Ao35 t191.length co35] 36 (0, 0))) := ⟨by (with_reducible repeat (first | refine blk_drewN ?_ _ | refine blk_drew ?_ | refine blk_alloc ?_ _)); refine blk_put (cs := #[.slice none 0 0]) ?_ 0 _ rfl; (with_reducible repeat (first | refine blk_drewN ?_ _ | refine blk_drew ?_ | refine blk_alloc ?_ _)); exact BK194.out⟩
  have n7_ : Aside0 (Below w.heap.size w (w34.setCell ⟨gb194, 0, none⟩ (.slice Ao35 t191.length co35))) := ⟨q3_13⟩
  (try clear HO180)
  (try clear HO187)
  (try clear HO193)
  (try clear BK175)
  (try clear BK176)
  (try clear BK190)
  (try clear BK194)
  (try clear HB)
  generalize (w34.setCell ⟨gb194, 0, none⟩ (.slice Ao35 t191.length co35)) = w40 at n0_ n1_ n2_ n3_ n4_ n5_ n6_ n7_ ⊢
  have HO180 := n0_
  have HO187 := n1_
  have HO193 := n2_
  have BK175 := n3_
  have BK176 := n4_
  have BK190 := n5_
  have BK194 := n6_
  have HB := n7_
  clear n0_ n1_ n2_ n3_ n4_ n5_ n6_ n7_
  have n0_ := Aside0.mk (Kd.R_drew HO180.out)
  have n1_ := Aside0.mk (Kd.R_drew HO187.out)
  have n2_ := Aside0.mk (Kd.R_drew HO193.out)
  have n3_ := Aside0.mk (blk_drew BK175.out)
  have n4_ := Aside0.mk (blk_drew BK176.out)
  have n5_ := Aside0.mk (blk_drew BK190.out)
  have n6_ := Aside0.mk (blk_drew BK194.out)
  have n7_ := Aside0.mk (below_drew1 HB.out)
  clear HO180
  clear HO187
  clear HO193
  clear BK175
  clear BK176
  clear BK190
  clear BK194
  clear HB
  have HO180 := n0_
  have HO187 := n1_
  have HO193 := n2_
  have BK175 := n3_
  have BK176 := n4_
  have BK190 := n5_
  have BK194 := n6_
  have HB := n7_
  clear n0_ n1_ n2_ n3_ n4_ n5_ n6_ n7_
  refine start_ (n := 12) (S := fun w' => w'.cell? ⟨gb194, 0, none⟩ = some (.slice Ao35 t191.length co35) ∧ w'.cell? ⟨gb176, 0, none⟩ = some (.int .i64 a1_0) ∧ w'.cell? ⟨gb176, 1, none⟩ = some (.int .i64 a1_1) ∧ w'.cell? ⟨gb176, 2, none⟩ = some (.int .i64 a1_2) ∧ w'.cell? ⟨gb176, 3, none⟩ = some (.int .i64 a1_3)) (ds := []) #[F,F,F,F,F,F,F,F,F,F,F,F] q3_30 rfl rfl ⟨(blk_cell BK194.out 0).trans rfl, (blk_cell BK176.out 0).trans rfl, (blk_cell BK176.out 1).trans rfl, (blk_cell BK176.out 2).trans rfl, (blk_cell BK176.out 3).trans rfl⟩ (fun hHeld => ?_); refine with_tabW laws_FnExactDo.tab7 laws_FnExactDo.bits7 (fun HT_ HW_ => ?_)
  generalize w40.drew = w41 at HO180 HO187 HO193 BK175 BK176 BK190 BK194 HB hHeld ⊢
  refine take_ (i := 0) (N := some 36) (v := ?_) (a' := ?_) #[T,F,F,F,F,F,F,F,F,F,F,F] rfl rfl (take_ofW HT_.out HW_.out q3_30) (fun _ _ _ h => h) (Or.inl ⟨by rfl, ?_⟩) hHeld ?_ ?_
  rotate_left
  ·rintro w' ⟨s0, s1, s2, s3, s4⟩
   go_simp
   with_reducible rfl
  rotate_left
  ·simp only [Act.put, List.setIfInBounds_toArray, List.set_cons_zero, List.set_cons_succ, i64_w, i32_w]
   rfl
  refine take_ (i := 1) (N := some 37) (v := ?_) (a' := ?_) #[T,T,F,F,F,F,F,F,F,F,F,F] rfl rfl (take_ofW HT_.out HW_.out q3_30) (fun _ _ _ h => h) (Or.inl ⟨by rfl, ?_⟩) hHeld ?_ ?_
  rotate_left
  ·rintro w' ⟨s0, s1, s2, s3, s4⟩
   go_simp
   with_reducible rfl
  rotate_left
  ·simp only [Act.put, List.setIfInBounds_toArray, List.set_cons_zero, List.set_cons_succ, i64_w, i32_w]
   rfl
  refine join_ (σ := Value × Nat) 3 #[T,T,T,T,T,T,T,T,T,F,F,F] (fun s_ => [(38, .agg #[.int .i64 t195, .int .i64 t196, .int .i64 t197, .int .i64 t198]), (39, .tuple #[.agg #[s_.1], .int .i64 t202, .bool t203]), (10, .pointer (some ⟨s_.2, 0, none⟩)), (35, .tuple #[.agg #[s_.1], .int .i64 t202, .bool t203]), (40, .agg #[s_.1]), (41, .int .i64 t202), (42, .bool t203)]) (fun s_ w' => (w'.cell? ⟨gb194, 0, none⟩ = some (.slice Ao35 t191.length co35) ∧ w'.cell? ⟨gb176, 0, none⟩ = some (.int .i64 a1_0) ∧ w'.cell? ⟨gb176, 1, none⟩ = some (.int .i64 a1_1) ∧ w'.cell? ⟨gb176, 2, none⟩ = some (.int .i64 a1_2) ∧ w'.cell? ⟨gb176, 3, none⟩ = some (.int .i64 a1_3)) ∧ (Kd.R (Kd.int .i64) 3 w' w.heap.size (fun k_ => some k_ ≠ (.slice Ao29 t185.length co29 : Value).ownBlock ∧ some k_ ≠ (.slice Ao35 t191.length co35 : Value).ownBlock ∧ some k_ ≠ (s_.1 : Value).ownBlock) v179 t178) ∧ (Kd.R (Kd.int .i64) 3 w' w.heap.size (fun k_ => some k_ ≠ (v179 : Value).ownBlock ∧ some k_ ≠ (.slice Ao35 t191.length co35 : Value).ownBlock ∧ some k_ ≠ (s_.1 : Value).ownBlock) (.slice Ao29 t185.length co29) t185) ∧ (Kd.R (Kd.int .i64) 3 w' w.heap.size (fun k_ => some k_ ≠ (v179 : Value).ownBlock ∧ some k_ ≠ (.slice Ao29 t185.length co29 : Value).ownBlock ∧ some k_ ≠ (s_.1 : Value).ownBlock) (.slice Ao35 t191.length co35) t191) ∧ (Kd.R (Kd.int .i64) 3 w' w.heap.size (fun k_ => some k_ ≠ (v179 : Value).ownBlock ∧ some k_ ≠ (.slice Ao29 t185.length co29 : Value).ownBlock ∧ some k_ ≠ (.slice Ao35 t191.length co35 : Value).ownBlock) s_.1 t199) ∧ (w'.heap[gb175]? = some (.cells #[.slice A0_0 l0_0.length c0_0] 31 (0, 0))) ∧ (w'.heap[gb176]? = some (.cells #[.int .i64 a1_0, .int .i64 a1_1, .int .i64 a1_2, .int .i64 a1_3] 33 (0, 0))) ∧ (w'.heap[gb190]? = some (.cells #[.slice Ao29 t185.length co29] 36 (0, 0))) ∧ (w'.heap[gb194]? = some (.cells #[.slice Ao35 t191.length co35] 36 (0, 0))) ∧ (w'.heap[s_.2]? = some (.cells #[.slice none 0 0] 36 (0, 0))) ∧ (w.heap.size ≤ s_.2) ∧ (w.heap.size ≤ s_.2) ∧ (gb175 ≠ s_.2) ∧ (s_.2 ≠ gb175) ∧ (gb176 ≠ s_.2) ∧ (s_.2 ≠ gb176) ∧ (gb190 ≠ s_.2) ∧ (s_.2 ≠ gb190) ∧ (gb194 ≠ s_.2) ∧ (s_.2 ≠ gb194) ∧ (Below w.heap.size w w')) ?_ ?_
  rotate_left
  ·intro hCont
   refine two_ (i := 2) (j := 8) (Ni := some 38) (Nj := some 10) #[T,T,T,F,F,F,F,F,F,F,F,F] #[T,T,F,F,F,F,F,F,T,F,F,F] rfl rfl rfl rfl (two_of HT_.out q3_30) (by decide) (by decide) (fun K hK => ?_) (fun K hK => ?_)
   ·skip
    refine goes_ Try.func24 q3_30 rfl #[.agg #[.int .i64 a1_0, .int .i64 a1_1, .int .i64 a1_2, .int .i64 a1_3]] (by rfl) rfl rfl q3_7 ?_
    with_reducible refine (laws_toAct.calls a1_0 a1_1 a1_2 a1_3 t195 t196 t197 t198 _ A14.out).mono ?_
    rintro e w42 ⟨rfl, hb⟩
    refine ⟨_, rfl, ?_⟩
    have n0_ := Aside0.mk (Kd.R_below q3_14 hb)
    have n1_ := Aside0.mk (Kd.R_below q3_26 hb)
    have n2_ := Aside0.mk (Kd.R_below q3_28 hb)
    have n3_ := Aside0.mk (blk_below (g := gb175) (o := .cells #[.slice A0_0 l0_0.length c0_0] 31 (0, 0)) q3_1 hb)
    have n4_ := Aside0.mk (blk_below (g := gb176) (o := .cells #[.int .i64 a1_0, .int .i64 a1_1, .int .i64 a1_2, .int .i64 a1_3] 33 (0, 0)) q3_2 hb)
    have n5_ := Aside0.mk (blk_below (g := gb190) (o := .cells #[.slice Ao29 t185.length co29] 36 (0, 0)) q3_3 hb)
    have n6_ := Aside0.mk (blk_below (g := gb194) (o := .cells #[.slice Ao35 t191.length co35] 36 (0, 0)) q3_5 hb)
    have n7_ := Aside0.mk (below_step q3_13 hb)
    clear HO180
    clear HO187
    clear HO193
    clear BK175
    clear BK176
    clear BK190
    clear BK194
    clear HB
    have HO180 := n0_
    have HO187 := n1_
    have HO193 := n2_
    have BK175 := n3_
    have BK176 := n4_
    have BK190 := n5_
    have BK194 := n6_
    have HB := n7_
    clear n0_ n1_ n2_ n3_ n4_ n5_ n6_ n7_
    (try clear hb)
    (try clear hb2)
    (try clear hk)
    (try clear hi)
    refine hK.out _ _ ⟨(blk_cell BK194.out 0).trans rfl, (blk_cell BK176.out 0).trans rfl, (blk_cell BK176.out 1).trans rfl, (blk_cell BK176.out 2).trans rfl, (blk_cell BK176.out 3).trans rfl⟩ (fun hHeld => ?_)
    clear hK K
    refine norm_ (a' := ?_) ?_ ?_
    rotate_left
    ·show Act.put _ (some 38) _ = _
     simp only [Act.put, List.setIfInBounds_toArray, List.set_cons_zero, List.set_cons_succ, i64_w, i32_w]
     rfl
    refine two_ (i := 3) (j := 8) (Ni := some 39) (Nj := some 10) #[T,T,T,T,F,F,F,F,F,F,F,F] #[T,T,T,F,F,F,F,F,T,F,F,F] rfl rfl rfl rfl (two_of HT_.out q3_30) (by decide) (by decide) (fun K hK => ?_) (fun K hK => ?_)
    ·skip
     refine goes_ Try.func28 q3_30 rfl #[.agg #[.slice Ao35 t191.length co35], .agg #[.int .i64 t195, .int .i64 t196, .int .i64 t197, .int .i64 t198]] (by rfl) rfl rfl q3_7 ?_
     with_reducible refine (impl_Do.calls _ _ t191 t195 t196 t197 t198 t199 t202 t203 _ ?side1 ?side2 A15.out).mono ?_
     (case side1 => repeat (first | exact (Kd.R_reads' HO193.out).2.2 | (with_reducible refine Kd.C_alloc ?_ _) | (with_reducible refine Kd.C_drewN ?_ _) | (with_reducible refine Kd.C_drew ?_)))
     (case side2 => exact (Kd.R_reads' HO193.out).2.1)
     rintro e w43 ⟨v200, rfl, ho0, hb⟩
     refine ⟨_, rfl, ?_⟩
     have n0_ := Aside0.mk (Kd.R_elder' q3_14 (Kd.R_base ho0) hb)
     have n1_ := Aside0.mk (Kd.R_elder' q3_26 (Kd.R_base ho0) hb)
     have n2_ := Aside0.mk (Kd.R_elder' q3_28 (Kd.R_base ho0) hb)
     have n3_ := Aside0.mk (Kd.R_lower (Kd.R_new' (Kd.R_new' (Kd.R_new' ho0 (Kd.R_lt q3_14)) (Kd.R_lt q3_26)) (Kd.R_lt q3_28)) (below_size q3_13))
     have n4_ := Aside0.mk (blk_below (g := gb175) (o := .cells #[.slice A0_0 l0_0.length c0_0] 31 (0, 0)) q3_1 hb)
     have n5_ := Aside0.mk (blk_below (g := gb176) (o := .cells #[.int .i64 a1_0, .int .i64 a1_1, .int .i64 a1_2, .int .i64 a1_3] 33 (0, 0)) q3_2 hb)
     have n6_ := Aside0.mk (blk_below (g := gb190) (o := .cells #[.slice Ao29 t185.length co29] 36 (0, 0)) q3_3 hb)
     have n7_ := Aside0.mk (blk_below (g := gb194) (o := .cells #[.slice Ao35 t191.length co35] 36 (0, 0)) q3_5 hb)
     have n8_ := Aside0.mk (below_step q3_13 hb)
     clear HO180
     clear HO187
     clear HO193
     clear BK175
     clear BK176
     clear BK190
     clear BK194
     clear HB
     have HO180 := n0_
     have HO187 := n1_
     have HO193 := n2_
     have HO201 := n3_
     have BK175 := n4_
     have BK176 := n5_
     have BK190 := n6_
     have BK194 := n7_
     have HB := n8_
     clear n0_ n1_ n2_ n3_ n4_ n5_ n6_ n7_ n8_
     (try clear hb)
     (try clear hb2)
     (try clear hk)
     (try clear hi)
     (try clear ho0)
     refine hK.out _ _ ⟨(blk_cell BK194.out 0).trans rfl, (blk_cell BK176.out 0).trans rfl, (blk_cell BK176.out 1).trans rfl, (blk_cell BK176.out 2).trans rfl, (blk_cell BK176.out 3).trans rfl⟩ (fun hHeld => ?_)
     clear hK K
     refine norm_ (a' := ?_) ?_ ?_
     rotate_left
     ·show Act.put _ (some 39) _ = _
      simp only [Act.put, List.setIfInBounds_toArray, List.set_cons_zero, List.set_cons_succ, i64_w, i32_w]
      rfl
     refine q3_p 4 35 #[T,T,T,T,T,F,F,F,F,F,F,F] ?_
     refine q3_p 5 40 #[T,T,T,T,T,T,F,F,F,F,F,F] ?_
     refine q3_p 6 41 #[T,T,T,T,T,T,T,F,F,F,F,F] ?_
     refine q3_p 7 42 #[T,T,T,T,T,T,T,T,F,F,F,F] ?_
     refine one_ (i := 8) (N := some 10) #[T,T,T,T,T,T,T,T,T,F,F,F] rfl rfl (one_of HT_.out q3_30) (by decide) (fun K hK => ?_)
     refine box_step ?hg (N := 10) ?hd (cs := #[.slice none 0 0]) (t := 36) ?hr ?_; (case hd => rfl); (case hg => rfl); (case hr => first | (go_simp; done) | (go_simp; rfl))
     intro gb204 hg w44 hbox hb
     have n0_ := Aside0.mk (Kd.R_below q3_14 hb)
     have n1_ := Aside0.mk (Kd.R_below q3_26 hb)
     have n2_ := Aside0.mk (Kd.R_below q3_28 hb)
     have n3_ := Aside0.mk (Kd.R_below (by (with_reducible repeat (first | apply Kd.R_alloc | apply Kd.R_drewN | apply Kd.R_drew)); exact HO201.out) hb)
     have n4_ := Aside0.mk (blk_below (g := gb175) (o := .cells #[.slice A0_0 l0_0.length c0_0] 31 (0, 0)) q3_1 hb)
     have n5_ := Aside0.mk (blk_below (g := gb176) (o := .cells #[.int .i64 a1_0, .int .i64 a1_1, .int .i64 a1_2, .int .i64 a1_3] 33 (0, 0)) q3_2 hb)
     have n6_ := Aside0.mk (blk_below (g := gb190) (o := .cells #[.slice Ao29 t185.length co29] 36 (0, 0)) q3_3 hb)
     have n7_ := Aside0.mk (blk_below (g := gb194) (o := .cells #[.slice Ao35 t191.length co35] 36 (0, 0)) q3_5 hb)
     have n8_ := Aside0.mk (below_step q3_13 hb)
     have n9_ := Aside0.mk (hbox)
     have n10_ := Aside0.mk ((by rw [hg]; exact (below_size q3_13) : w.heap.size ≤ gb204))
     have n11_ := Aside0.mk ((by rw [hg]; exact (below_size q3_13) : w.heap.size ≤ gb204))
     have n12_ := Aside0.mk ((q3_17 : gb175 ≠ gb204))
     have n13_ := Aside0.mk ((q3_18 : gb204 ≠ gb175))
     have n14_ := Aside0.mk ((q3_15 : gb176 ≠ gb204))
     have n15_ := Aside0.mk ((q3_16 : gb204 ≠ gb176))
     have n16_ := Aside0.mk ((q3_33 : gb190 ≠ gb204))
     have n17_ := Aside0.mk ((q3_34 : gb204 ≠ gb190))
     have n18_ := Aside0.mk ((by rw [hg]; exact Nat.ne_of_lt (blk_lt (g := gb194) (o := .cells #[.slice Ao35 t191.length co35] 36 (0, 0)) q3_5) : gb194 ≠ gb204))
     have n19_ := Aside0.mk ((by rw [hg]; exact Nat.ne_of_gt (blk_lt (g := gb194) (o := .cells #[.slice Ao35 t191.length co35] 36 (0, 0)) q3_5) : gb204 ≠ gb194))
     clear HO180
     clear HO187
     clear HO193
     clear HO201
     clear BK175
     clear BK176
     clear BK190
     clear BK194
     clear HB
     have HO180 := n0_
     have HO187 := n1_
     have HO193 := n2_
     have HO201 := n3_
     have BK175 := n4_
     have BK176 := n5_
     have BK190 := n6_
     have BK194 := n7_
     have HB := n8_
     have BK204 := n9_
     have GW204 := n10_
     have GE204 := n11_
     have NB175_204 := n12_
     have NB204_175 := n13_
     have NB176_204 := n14_
     have NB204_176 := n15_
     have NB190_204 := n16_
     have NB204_190 := n17_
     have NB194_204 := n18_
     have NB204_194 := n19_
     clear n0_ n1_ n2_ n3_ n4_ n5_ n6_ n7_ n8_ n9_ n10_ n11_ n12_ n13_ n14_ n15_ n16_ n17_ n18_ n19_
     clear hb hbox hg
     refine hK.out _ _ ⟨(blk_cell BK194.out 0).trans rfl, (blk_cell BK176.out 0).trans rfl, (blk_cell BK176.out 1).trans rfl, (blk_cell BK176.out 2).trans rfl, (blk_cell BK176.out 3).trans rfl⟩ (fun hHeld => ?_)
     clear hK K
     refine norm_ (a' := ?_) ?_ ?_
     rotate_left
     ·show Act.put _ (some 10) _ = _
      simp only [Act.put, List.setIfInBounds_toArray, List.set_cons_zero, List.set_cons_succ, i64_w, i32_w]
      rfl
     exact norm_ q3_29 (hCont (v200, gb204) _ ⟨hHeld, (by (with_reducible repeat (first | apply Kd.R_alloc | apply Kd.R_drewN | apply Kd.R_drew)); exact Kd.R_mono HO180.out (fun _ hk => ⟨hk.1.1, ⟨hk.1.2, hk.2⟩⟩)), (by (with_reducible repeat (first | apply Kd.R_alloc | apply Kd.R_drewN | apply Kd.R_drew)); exact Kd.R_mono HO187.out (fun _ hk => ⟨hk.1.1, ⟨hk.1.2, hk.2⟩⟩)), (by (with_reducible repeat (first | apply Kd.R_alloc | apply Kd.R_drewN | apply Kd.R_drew)); exact Kd.R_mono HO193.out (fun _ hk => ⟨hk.1.1, ⟨hk.1.2, hk.2⟩⟩)), (by (with_reducible repeat (first | apply Kd.R_alloc | apply Kd.R_drewN | apply Kd.R_drew)); exact Kd.R_mono HO201.out (fun _ hk => ⟨hk.1.1.2, ⟨hk.1.2, hk.2⟩⟩)), q3_1, q3_2, q3_3, q3_5, q3_6, GW204.out, GE204.out, NB175_204.out, NB204_175.out, NB176_204.out, NB204_176.out, NB190_204.out, NB204_190.out, NB194_204.out, NB204_194.out, q3_0⟩)
    ·skip
     refine box_step ?hg (N := 10) ?hd (cs := #[.slice none 0 0]) (t := 36) ?hr ?_; (case hd => rfl); (case hg => rfl); (case hr => first | (go_simp; done) | (go_simp; rfl))
     intro gb204 hg w43 hbox hb
     have n0_ := Aside0.mk (Kd.R_below q3_14 hb)
     have n1_ := Aside0.mk (Kd.R_below q3_26 hb)
     have n2_ := Aside0.mk (Kd.R_below q3_28 hb)
     have n3_ := Aside0.mk (blk_below (g := gb175) (o := .cells #[.slice A0_0 l0_0.length c0_0] 31 (0, 0)) q3_1 hb)
     have n4_ := Aside0.mk (blk_below (g := gb176) (o := .cells #[.int .i64 a1_0, .int .i64 a1_1, .int .i64 a1_2, .int .i64 a1_3] 33 (0, 0)) q3_2 hb)
     have n5_ := Aside0.mk (blk_below (g := gb190) (o := .cells #[.slice Ao29 t185.length co29] 36 (0, 0)) q3_3 hb)
     have n6_ := Aside0.mk (blk_below (g := gb194) (o := .cells #[.slice Ao35 t191.length co35] 36 (0, 0)) q3_5 hb)
     have n7_ := Aside0.mk (below_step q3_13 hb)
     have n8_ := Aside0.mk (hbox)
     have n9_ := Aside0.mk ((by rw [hg]; exact (below_size q3_13) : w.heap.size ≤ gb204))
     have n10_ := Aside0.mk ((by rw [hg]; exact (below_size q3_13) : w.heap.size ≤ gb204))
     have n11_ := Aside0.mk ((q3_17 : gb175 ≠ gb204))
     have n12_ := Aside0.mk ((q3_18 : gb204 ≠ gb175))
     have n13_ := Aside0.mk ((q3_15 : gb176 ≠ gb204))
     have n14_ := Aside0.mk ((q3_16 : gb204 ≠ gb176))
     have n15_ := Aside0.mk ((q3_33 : gb190 ≠ gb204))
     have n16_ := Aside0.mk ((q3_34 : gb204 ≠ gb190))
     have n17_ := Aside0.mk ((by rw [hg]; exact Nat.ne_of_lt (blk_lt (g := gb194) (o := .cells #[.slice Ao35 t191.length co35] 36 (0, 0)) q3_5) : gb194 ≠ gb204))
     have n18_ := Aside0.mk ((by rw [hg]; exact Nat.ne_of_gt (blk_lt (g := gb194) (o := .cells #[.slice Ao35 t191.length co35] 36 (0, 0)) q3_5) : gb204 ≠ gb194))
     clear HO180
     clear HO187
     clear HO193
     clear BK175
     clear BK176
     clear BK190
     clear BK194
     clear HB
     have HO180 := n0_
     have HO187 := n1_
     have HO193 := n2_
     have BK175 := n3_
     have BK176 := n4_
     have BK190 := n5_
     have BK194 := n6_
     have HB := n7_
     have BK204 := n8_
     have GW204 := n9_
     have GE204 := n10_
     have NB175_204 := n11_
     have NB204_175 := n12_
     have NB176_204 := n13_
     have NB204_176 := n14_
     have NB190_204 := n15_
     have NB204_190 := n16_
     have NB194_204 := n17_
     have NB204_194 := n18_
     clear n0_ n1_ n2_ n3_ n4_ n5_ n6_ n7_ n8_ n9_ n10_ n11_ n12_ n13_ n14_ n15_ n16_ n17_ n18_
     clear hb hbox hg
     refine hK.out _ _ ⟨(blk_cell BK194.out 0).trans rfl, (blk_cell BK176.out 0).trans rfl, (blk_cell BK176.out 1).trans rfl, (blk_cell BK176.out 2).trans rfl, (blk_cell BK176.out 3).trans rfl⟩ (fun hHeld => ?_)
     clear hK K
     refine norm_ (a' := ?_) ?_ ?_
     rotate_left
     ·show Act.put _ (some 10) _ = _
      simp only [Act.put, List.setIfInBounds_toArray, List.set_cons_zero, List.set_cons_succ, i64_w, i32_w]
      rfl
     refine one_ (i := 3) (N := some 39) #[T,T,T,T,F,F,F,F,T,F,F,F] rfl rfl (one_of HT_.out q3_30) (by decide) (fun K hK => ?_)
     refine goes_ Try.func28 q3_30 rfl #[.agg #[.slice Ao35 t191.length co35], .agg #[.int .i64 t195, .int .i64 t196, .int .i64 t197, .int .i64 t198]] (by rfl) rfl rfl q3_7 ?_
     with_reducible refine (impl_Do.calls _ _ t191 t195 t196 t197 t198 t199 t202 t203 _ ?side1 ?side2 A15.out).mono ?_
     (case side1 => repeat (first | exact (Kd.R_reads' HO193.out).2.2 | (with_reducible refine Kd.C_alloc ?_ _) | (with_reducible refine Kd.C_drewN ?_ _) | (with_reducible refine Kd.C_drew ?_)))
     (case side2 => exact (Kd.R_reads' HO193.out).2.1)
     rintro e w44 ⟨v200, rfl, ho0, hb⟩
     refine ⟨_, rfl, ?_⟩
     have n0_ := Aside0.mk (Kd.R_elder' q3_14 (Kd.R_base ho0) hb)
     have n1_ := Aside0.mk (Kd.R_elder' q3_26 (Kd.R_base ho0) hb)
     have n2_ := Aside0.mk (Kd.R_elder' q3_28 (Kd.R_base ho0) hb)
     have n3_ := Aside0.mk (Kd.R_lower (Kd.R_new' (Kd.R_new' (Kd.R_new' ho0 (Kd.R_lt q3_14)) (Kd.R_lt q3_26)) (Kd.R_lt q3_28)) (below_size q3_0))
     have n4_ := Aside0.mk (blk_below (g := gb175) (o := .cells #[.slice A0_0 l0_0.length c0_0] 31 (0, 0)) q3_1 hb)
     have n5_ := Aside0.mk (blk_below (g := gb176) (o := .cells #[.int .i64 a1_0, .int .i64 a1_1, .int .i64 a1_2, .int .i64 a1_3] 33 (0, 0)) q3_2 hb)
     have n6_ := Aside0.mk (blk_below (g := gb190) (o := .cells #[.slice Ao29 t185.length co29] 36 (0, 0)) q3_3 hb)
     have n7_ := Aside0.mk (blk_below (g := gb194) (o := .cells #[.slice Ao35 t191.length co35] 36 (0, 0)) q3_5 hb)
     have n8_ := Aside0.mk (blk_below (g := gb204) (o := .cells #[.slice none 0 0] 36 (0, 0)) q3_6 hb)
     have n9_ := Aside0.mk (below_step q3_0 hb)
     clear HO180
     clear HO187
     clear HO193
     clear BK175
     clear BK176
     clear BK190
     clear BK194
     clear BK204
     clear HB
     have HO180 := n0_
     have HO187 := n1_
     have HO193 := n2_
     have HO201 := n3_
     have BK175 := n4_
     have BK176 := n5_
     have BK190 := n6_
     have BK194 := n7_
     have BK204 := n8_
     have HB := n9_
     clear n0_ n1_ n2_ n3_ n4_ n5_ n6_ n7_ n8_ n9_
     (try clear hb)
     (try clear hb2)
     (try clear hk)
     (try clear hi)
     (try clear ho0)
     refine hK.out _ _ ⟨(blk_cell BK194.out 0).trans rfl, (blk_cell BK176.out 0).trans rfl, (blk_cell BK176.out 1).trans rfl, (blk_cell BK176.out 2).trans rfl, (blk_cell BK176.out 3).trans rfl⟩ (fun hHeld => ?_)
     clear hK K
     refine norm_ (a' := ?_) ?_ ?_
     rotate_left
     ·show Act.put _ (some 39) _ = _
      simp only [Act.put, List.setIfInBounds_toArray, List.set_cons_zero, List.set_cons_succ, i64_w, i32_w]
      rfl
     refine q3_p 4 35 #[T,T,T,T,T,F,F,F,T,F,F,F] ?_
     refine q3_p 5 40 #[T,T,T,T,T,T,F,F,T,F,F,F] ?_
     refine q3_p 6 41 #[T,T,T,T,T,T,T,F,T,F,F,F] ?_
     refine q3_p 7 42 #[T,T,T,T,T,T,T,T,T,F,F,F] ?_
     exact norm_ q3_29 (hCont (v200, gb204) _ ⟨hHeld, (by (with_reducible repeat (first | apply Kd.R_alloc | apply Kd.R_drewN | apply Kd.R_drew)); exact Kd.R_mono HO180.out (fun _ hk => ⟨hk.1.1, ⟨hk.1.2, hk.2⟩⟩)), (by (with_reducible repeat (first | apply Kd.R_alloc | apply Kd.R_drewN | apply Kd.R_drew)); exact Kd.R_mono HO187.out (fun _ hk => ⟨hk.1.1, ⟨hk.1.2, hk.2⟩⟩)), (by (with_reducible repeat (first | apply Kd.R_alloc | apply Kd.R_drewN | apply Kd.R_drew)); exact Kd.R_mono HO193.out (fun _ hk => ⟨hk.1.1, ⟨hk.1.2, hk.2⟩⟩)), (by (with_reducible repeat (first | apply Kd.R_alloc | apply Kd.R_drewN | apply Kd.R_drew)); exact Kd.R_mono HO201.out (fun _ hk => ⟨hk.1.1.2, ⟨hk.1.2, hk.2⟩⟩)), q3_1, q3_2, q3_3, q3_5, q3_6, GW204.out, GE204.out, NB175_204.out, NB204_175.out, NB176_204.out, NB204_176.out, NB190_204.out, NB204_190.out, NB194_204.out, NB204_194.out, q3_0⟩)
   ·skip
    refine box_step ?hg (N := 10) ?hd (cs := #[.slice none 0 0]) (t := 36) ?hr ?_; (case hd => rfl); (case hg => rfl); (case hr => first | (go_simp; done) | (go_simp; rfl))
    intro gb204 hg w42 hbox hb
    have n0_ := Aside0.mk (Kd.R_below q3_14 hb)
    have n1_ := Aside0.mk (Kd.R_below q3_26 hb)
    have n2_ := Aside0.mk (Kd.R_below q3_28 hb)
    have n3_ := Aside0.mk (blk_below (g := gb175) (o := .cells #[.slice A0_0 l0_0.length c0_0] 31 (0, 0)) q3_1 hb)
    have n4_ := Aside0.mk (blk_below (g := gb176) (o := .cells #[.int .i64 a1_0, .int .i64 a1_1, .int .i64 a1_2, .int .i64 a1_3] 33 (0, 0)) q3_2 hb)
    have n5_ := Aside0.mk (blk_below (g := gb190) (o := .cells #[.slice Ao29 t185.length co29] 36 (0, 0)) q3_3 hb)
    have n6_ := Aside0.mk (blk_below (g := gb194) (o := .cells #[.slice Ao35 t191.length co35] 36 (0, 0)) q3_5 hb)
    have n7_ := Aside0.mk (below_step q3_13 hb)
    have n8_ := Aside0.mk (hbox)
    have n9_ := Aside0.mk ((by rw [hg]; exact (below_size q3_13) : w.heap.size ≤ gb204))
    have n10_ := Aside0.mk ((by rw [hg]; exact (below_size q3_13) : w.heap.size ≤ gb204))
    have n11_ := Aside0.mk ((q3_17 : gb175 ≠ gb204))
    have n12_ := Aside0.mk ((q3_18 : gb204 ≠ gb175))
    have n13_ := Aside0.mk ((q3_15 : gb176 ≠ gb204))
    have n14_ := Aside0.mk ((q3_16 : gb204 ≠ gb176))
    have n15_ := Aside0.mk ((q3_33 : gb190 ≠ gb204))
    have n16_ := Aside0.mk ((q3_34 : gb204 ≠ gb190))
    have n17_ := Aside0.mk ((by rw [hg]; exact Nat.ne_of_lt (blk_lt (g := gb194) (o := .cells #[.slice Ao35 t191.length co35] 36 (0, 0)) q3_5) : gb194 ≠ gb204))
    have n18_ := Aside0.mk ((by rw [hg]; exact Nat.ne_of_gt (blk_lt (g := gb194) (o := .cells #[.slice Ao35 t191.length co35] 36 (0, 0)) q3_5) : gb204 ≠ gb194))
    clear HO180
    clear HO187
    clear HO193
    clear BK175
    clear BK176
    clear BK190
    clear BK194
    clear HB
    have HO180 := n0_
    have HO187 := n1_
    have HO193 := n2_
    have BK175 := n3_
    have BK176 := n4_
    have BK190 := n5_
    have BK194 := n6_
    have HB := n7_
    have BK204 := n8_
    have GW204 := n9_
    have GE204 := n10_
    have NB175_204 := n11_
    have NB204_175 := n12_
    have NB176_204 := n13_
    have NB204_176 := n14_
    have NB190_204 := n15_
    have NB204_190 := n16_
    have NB194_204 := n17_
    have NB204_194 := n18_
    clear n0_ n1_ n2_ n3_ n4_ n5_ n6_ n7_ n8_ n9_ n10_ n11_ n12_ n13_ n14_ n15_ n16_ n17_ n18_
    clear hb hbox hg
    refine hK.out _ _ ⟨(blk_cell BK194.out 0).trans rfl, (blk_cell BK176.out 0).trans rfl, (blk_cell BK176.out 1).trans rfl, (blk_cell BK176.out 2).trans rfl, (blk_cell BK176.out 3).trans rfl⟩ (fun hHeld => ?_)
    clear hK K
    refine norm_ (a' := ?_) ?_ ?_
    rotate_left
    ·show Act.put _ (some 10) _ = _
     simp only [Act.put, List.setIfInBounds_toArray, List.set_cons_zero, List.set_cons_succ, i64_w, i32_w]
     rfl
    refine one_ (i := 2) (N := some 38) #[T,T,T,F,F,F,F,F,T,F,F,F] rfl rfl (one_of HT_.out q3_30) (by decide) (fun K hK => ?_)
    refine goes_ Try.func24 q3_30 rfl #[.agg #[.int .i64 a1_0, .int .i64 a1_1, .int .i64 a1_2, .int .i64 a1_3]] (by rfl) rfl rfl q3_7 ?_
    with_reducible refine (laws_toAct.calls a1_0 a1_1 a1_2 a1_3 t195 t196 t197 t198 _ A14.out).mono ?_
    rintro e w43 ⟨rfl, hb⟩
    refine ⟨_, rfl, ?_⟩
    have n0_ := Aside0.mk (Kd.R_below q3_14 hb)
    have n1_ := Aside0.mk (Kd.R_below q3_26 hb)
    have n2_ := Aside0.mk (Kd.R_below q3_28 hb)
    have n3_ := Aside0.mk (blk_below (g := gb175) (o := .cells #[.slice A0_0 l0_0.length c0_0] 31 (0, 0)) q3_1 hb)
    have n4_ := Aside0.mk (blk_below (g := gb176) (o := .cells #[.int .i64 a1_0, .int .i64 a1_1, .int .i64 a1_2, .int .i64 a1_3] 33 (0, 0)) q3_2 hb)
    have n5_ := Aside0.mk (blk_below (g := gb190) (o := .cells #[.slice Ao29 t185.length co29] 36 (0, 0)) q3_3 hb)
    have n6_ := Aside0.mk (blk_below (g := gb194) (o := .cells #[.slice Ao35 t191.length co35] 36 (0, 0)) q3_5 hb)
    have n7_ := Aside0.mk (blk_below (g := gb204) (o := .cells #[.slice none 0 0] 36 (0, 0)) q3_6 hb)
    have n8_ := Aside0.mk (below_step q3_0 hb)
    clear HO180
    clear HO187
    clear HO193
    clear BK175
    clear BK176
    clear BK190
    clear BK194
    clear BK204
    clear HB
    have HO180 := n0_
    have HO187 := n1_
    have HO193 := n2_
    have BK175 := n3_
    have BK176 := n4_
    have BK190 := n5_
    have BK194 := n6_
    have BK204 := n7_
    have HB := n8_
    clear n0_ n1_ n2_ n3_ n4_ n5_ n6_ n7_ n8_
    (try clear hb)
    (try clear hb2)
    (try clear hk)
    (try clear hi)
    refine hK.out _ _ ⟨(blk_cell BK194.out 0).trans rfl, (blk_cell BK176.out 0).trans rfl, (blk_cell BK176.out 1).trans rfl, (blk_cell BK176.out 2).trans rfl, (blk_cell BK176.out 3).trans rfl⟩ (fun hHeld => ?_)
    clear hK K
    refine norm_ (a' := ?_) ?_ ?_
    rotate_left
    ·show Act.put _ (some 38) _ = _
     simp only [Act.put, List.setIfInBounds_toArray, List.set_cons_zero, List.set_cons_succ, i64_w, i32_w]
     rfl
    refine one_ (i := 3) (N := some 39) #[T,T,T,T,F,F,F,F,T,F,F,F] rfl rfl (one_of HT_.out q3_30) (by decide) (fun K hK => ?_)
    refine goes_ Try.func28 q3_30 rfl #[.agg #[.slice Ao35 t191.length co35], .agg #[.int .i64 t195, .int .i64 t196, .int .i64 t197, .int .i64 t198]] (by rfl) rfl rfl q3_7 ?_
    with_reducible refine (impl_Do.calls _ _ t191 t195 t196 t197 t198 t199 t202 t203 _ ?side1 ?side2 A15.out).mono ?_
    (case side1 => repeat (first | exact (Kd.R_reads' HO193.out).2.2 | (with_reducible refine Kd.C_alloc ?_ _) | (with_reducible refine Kd.C_drewN ?_ _) | (with_reducible refine Kd.C_drew ?_)))
    (case side2 => exact (Kd.R_reads' HO193.out).2.1)
    rintro e w44 ⟨v200, rfl, ho0, hb⟩
    refine ⟨_, rfl, ?_⟩
    have n0_ := Aside0.mk (Kd.R_elder' q3_14 (Kd.R_base ho0) hb)
    have n1_ := Aside0.mk (Kd.R_elder' q3_26 (Kd.R_base ho0) hb)
    have n2_ := Aside0.mk (Kd.R_elder' q3_28 (Kd.R_base ho0) hb)
    have n3_ := Aside0.mk (Kd.R_lower (Kd.R_new' (Kd.R_new' (Kd.R_new' ho0 (Kd.R_lt q3_14)) (Kd.R_lt q3_26)) (Kd.R_lt q3_28)) (below_size q3_0))
    have n4_ := Aside0.mk (blk_below (g := gb175) (o := .cells #[.slice A0_0 l0_0.length c0_0] 31 (0, 0)) q3_1 hb)
    have n5_ := Aside0.mk (blk_below (g := gb176) (o := .cells #[.int .i64 a1_0, .int .i64 a1_1, .int .i64 a1_2, .int .i64 a1_3] 33 (0, 0)) q3_2 hb)
    have n6_ := Aside0.mk (blk_below (g := gb190) (o := .cells #[.slice Ao29 t185.length co29] 36 (0, 0)) q3_3 hb)
    have n7_ := Aside0.mk (blk_below (g := gb194) (o := .cells #[.slice Ao35 t191.length co35] 36 (0, 0)) q3_5 hb)
    have n8_ := Aside0.mk (blk_below (g := gb204) (o := .cells #[.slice none 0 0] 36 (0, 0)) q3_6 hb)
    have n9_ := Aside0.mk (below_step q3_0 hb)
    clear HO180
    clear HO187
    clear HO193
    clear BK175
    clear BK176
    clear BK190
    clear BK194
    clear BK204
    clear HB
    have HO180 := n0_
    have HO187 := n1_
    have HO193 := n2_
    have HO201 := n3_
    have BK175 := n4_
    have BK176 := n5_
    have BK190 := n6_
    have BK194 := n7_
    have BK204 := n8_
    have HB := n9_
    clear n0_ n1_ n2_ n3_ n4_ n5_ n6_ n7_ n8_ n9_
    (try clear hb)
    (try clear hb2)
    (try clear hk)
    (try clear hi)
    (try clear ho0)
    refine hK.out _ _ ⟨(blk_cell BK194.out 0).trans rfl, (blk_cell BK176.out 0).trans rfl, (blk_cell BK176.out 1).trans rfl, (blk_cell BK176.out 2).trans rfl, (blk_cell BK176.out 3).trans rfl⟩ (fun hHeld => ?_)
    clear hK K
    refine norm_ (a' := ?_) ?_ ?_
    rotate_left
    ·show Act.put _ (some 39) _ = _
     simp only [Act.put, List.setIfInBounds_toArray, List.set_cons_zero, List.set_cons_succ, i64_w, i32_w]
     rfl
    refine q3_p 4 35 #[T,T,T,T,T,F,F,F,T,F,F,F] ?_
    refine q3_p 5 40 #[T,T,T,T,T,T,F,F,T,F,F,F] ?_
    refine q3_p 6 41 #[T,T,T,T,T,T,T,F,T,F,F,F] ?_
    refine q3_p 7 42 #[T,T,T,T,T,T,T,T,T,F,F,F] ?_
    exact norm_ q3_29 (hCont (v200, gb204) _ ⟨hHeld, (by (with_reducible repeat (first | apply Kd.R_alloc | apply Kd.R_drewN | apply Kd.R_drew)); exact Kd.R_mono HO180.out (fun _ hk => ⟨hk.1.1, ⟨hk.1.2, hk.2⟩⟩)), (by (with_reducible repeat (first | apply Kd.R_alloc | apply Kd.R_drewN | apply Kd.R_drew)); exact Kd.R_mono HO187.out (fun _ hk => ⟨hk.1.1, ⟨hk.1.2, hk.2⟩⟩)), (by (with_reducible repeat (first | apply Kd.R_alloc | apply Kd.R_drewN | apply Kd.R_drew)); exact Kd.R_mono HO193.out (fun _ hk => ⟨hk.1.1, ⟨hk.1.2, hk.2⟩⟩)), (by (with_reducible repeat (first | apply Kd.R_alloc | apply Kd.R_drewN | apply Kd.R_drew)); exact Kd.R_mono HO201.out (fun _ hk => ⟨hk.1.1.2, ⟨hk.1.2, hk.2⟩⟩)), q3_1, q3_2, q3_3, q3_5, q3_6, GW204.out, GE204.out, NB175_204.out, NB204_175.out, NB176_204.out, NB204_176.out, NB190_204.out, NB204_190.out, NB194_204.out, NB204_194.out, q3_0⟩)
  rintro ⟨v200, gb204⟩ w45 ⟨hS_, h0_, h1_, h2_, h3_, h4_, h5_, h6_, h7_, h8_, h9_, h10_, h11_, h12_, h13_, h14_, h15_, h16_, h17_, h18_, h19_⟩
  have n0_ : Aside0 (Kd.R (Kd.int .i64) 3 w45 w.heap.size (fun k_ => some k_ ≠ (.slice Ao29 t185.length co29 : Value).ownBlock ∧ some k_ ≠ (.slice Ao35 t191.length co35 : Value).ownBlock ∧ some k_ ≠ (v200 : Value).ownBlock) v179 t178) := ⟨h0_⟩
  have n1_ : Aside0 (Kd.R (Kd.int .i64) 3 w45 w.heap.size (fun k_ => some k_ ≠ (v179 : Value).ownBlock ∧ some k_ ≠ (.slice Ao35 t191.length co35 : Value).ownBlock ∧ some k_ ≠ (v200 : Value).ownBlock) (.slice Ao29 t185.length co29) t185) := ⟨h1_⟩
  have n2_ : Aside0 (Kd.R (Kd.int .i64) 3 w45 w.heap.size (fun k_ => some k_ ≠ (v179 : Value).ownBlock ∧ some k_ ≠ (.slice Ao29 t185.length co29 : Value).ownBlock ∧ some k_ ≠ (v200 : Value).ownBlock) (.slice Ao35 t191.length co35) t191) := ⟨h2_⟩
  have n3_ : Aside0 (Kd.R (Kd.int .i64) 3 w45 w.heap.size (fun k_ => some k_ ≠ (v179 : Value).ownBlock ∧ some k_ ≠ (.slice Ao29 t185.length co29 : Value).ownBlock ∧ some k_ ≠ (.slice Ao35 t191.length co35 : Value).ownBlock) v200 t199) := ⟨h3_⟩
  have n4_ : Aside0 (w45.heap[gb175]? = some (.cells #[.slice A0_0 l0_0.length c0_0] 31 (0, 0))) := ⟨h4_⟩
  have n5_ : Aside0 (w45.heap[gb176]? = some (.cells #[.int .i64 a1_0, .int .i64 a1_1, .int .i64 a1_2, .int .i64 a1_3] 33 (0, 0))) := ⟨h5_⟩
  have n6_ : Aside0 (w45.heap[gb190]? = some (.cells #[.slice Ao29 t185.length co29] 36 (0, 0))) := ⟨h6_⟩
  have n7_ : Aside0 (w45.heap[gb194]? = some (.cells #[.slice Ao35 t191.length co35] 36 (0, 0))) := ⟨h7_⟩
  have n8_ : Aside0 (w45.heap[gb204]? = some (.cells #[.slice none 0 0] 36 (0, 0))) := ⟨h8_⟩
  have n9_ : Aside0 (w.heap.size ≤ gb204) := ⟨h9_⟩
  have n10_ : Aside0 (w.heap.size ≤ gb204) := ⟨h10_⟩
  have n11_ : Aside0 (gb175 ≠ gb204) := ⟨h11_⟩
  have n12_ : Aside0 (gb204 ≠ gb175) := ⟨h12_⟩
  have n13_ : Aside0 (gb176 ≠ gb204) := ⟨h13_⟩
  have n14_ : Aside0 (gb204 ≠ gb176) := ⟨h14_⟩
  have n15_ : Aside0 (gb190 ≠ gb204) := ⟨h15_⟩
  have n16_ : Aside0 (gb204 ≠ gb190) := ⟨h16_⟩
  have n17_ : Aside0 (gb194 ≠ gb204) := ⟨h17_⟩
  have n18_ : Aside0 (gb204 ≠ gb194) := ⟨h18_⟩
  have n19_ : Aside0 (Below w.heap.size w w45) := ⟨h19_⟩
  clear HO180
  clear HO187
  clear HO193
  clear BK175
  clear BK176
  clear BK190
  clear BK194
  clear HB
  clear h0_ h1_ h2_ h3_ h4_ h5_ h6_ h7_ h8_ h9_ h10_ h11_ h12_ h13_ h14_ h15_ h16_ h17_ h18_ h19_
  have HO180 := n0_
  have HO187 := n1_
  have HO193 := n2_
  have HO201 := n3_
  have BK175 := n4_
  have BK176 := n5_
  have BK190 := n6_
  have BK194 := n7_
  have BK204 := n8_
  have GW204 := n9_
  have GE204 := n10_
  have NB175_204 := n11_
  have NB204_175 := n12_
  have NB176_204 := n13_
  have NB204_176 := n14_
  have NB190_204 := n15_
  have NB204_190 := n16_
  have NB194_204 := n17_
  have NB204_194 := n18_
  have HB := n19_
  clear n0_ n1_ n2_ n3_ n4_ n5_ n6_ n7_ n8_ n9_ n10_ n11_ n12_ n13_ n14_ n15_ n16_ n17_ n18_ n19_
  have hHeld : w45.cell? ⟨gb194, 0, none⟩ = some (.slice Ao35 t191.length co35) ∧ w45.cell? ⟨gb176, 0, none⟩ = some (.int .i64 a1_0) ∧ w45.cell? ⟨gb176, 1, none⟩ = some (.int .i64 a1_1) ∧ w45.cell? ⟨gb176, 2, none⟩ = some (.int .i64 a1_2) ∧ w45.cell? ⟨gb176, 3, none⟩ = some (.int .i64 a1_3) := hS_
  obtain ⟨Ao46, co46, eo46⟩ := Kd.R_slice HO201.out
  (first | subst eo46 | (injection eo46 with f1_ f2_ f3_; have f4_ := f1_.symm; have f5_ := f3_.symm; clear f1_ f2_ f3_; subst f4_; subst f5_))
  refine norm_ (a' := ?_) ?_ ?_
  rotate_left
  ·simp only [putAll, Act.put, List.setIfInBounds_toArray, List.set_cons_zero, List.set_cons_succ]
   rfl
  refine one_ (i := 9) (N := none) #[T,T,T,T,T,T,T,T,T,T,F,F] rfl rfl (one_of HT_.out q3_30) (by decide) (fun K hK => ?_)
  have hs47 : w45.cell? ⟨gb204, 0, none⟩ = some (.slice none 0 0) := (blk_cell BK204.out 0).trans rfl
  have hfs47 := blk_frozen BK204.out 0
  have hns47_0 := NB175_204.out
  have hns47_1 := NB176_204.out
  have hns47_2 := NB190_204.out
  have hns47_3 := NB194_204.out
  have hms47_0 := NB204_175.out
  have hms47_1 := NB204_176.out
  have hms47_2 := NB204_190.out
  have hms47_3 := NB204_194.out
  refine skip_ (w1 := ?_) (by rfl) rfl ?_ ?_
  rotate_left
  ·go_simp
   rfl
  refine hK.out _ _ ⟨((cell_far (p := ⟨gb204, _, none⟩) NB194_204.out _).trans (hHeld.1)), ((cell_far (p := ⟨gb204, _, none⟩) NB176_204.out _).trans (hHeld.2.1)), ((cell_far (p := ⟨gb204, _, none⟩) NB176_204.out _).trans (hHeld.2.2.1)), ((cell_far (p := ⟨gb204, _, none⟩) NB176_204.out _).trans (hHeld.2.2.2.1)), ((cell_far (p := ⟨gb204, _, none⟩) NB176_204.out _).trans (hHeld.2.2.2.2))⟩ (fun hHeld => ?_)
  clear hK K
  refine q3_p 10 11 #[T,T,T,T,T,T,T,T,T,T,T,F] ?_
  refine q3_p 11 12 #[T,T,T,T,T,T,T,T,T,T,T,T] ?_
  refine done_ (done_of HT_.out q3_30) ?_
  go_upto_region 8 with (fail)
  go_cut [56] (fun v56 wc => ∃ (kq : Nat) (x56_15 : Bool), v56 = .bool x56_15 ∧ Aside0 (laws_FnExactDo.j0 kq t188 t189 t202 t203 x56_15 l0_0 a1_0 a1_1 a1_2 a1_3 t185 t191 t199 = some r) ∧ Aside0 (kq ≤ k) ∧ Aside0 (Kd.R (Kd.int .i64) 3 wc w.heap.size (fun k_ => some k_ ≠ ((.slice Ao35 t191.length co35) : Value).ownBlock ∧ some k_ ≠ ((.slice Ao46 t199.length co46) : Value).ownBlock) (.slice Ao29 t185.length co29) t185) ∧ Aside0 (Kd.R (Kd.int .i64) 3 wc w.heap.size (fun k_ => some k_ ≠ ((.slice Ao29 t185.length co29) : Value).ownBlock ∧ some k_ ≠ ((.slice Ao46 t199.length co46) : Value).ownBlock) (.slice Ao35 t191.length co35) t191) ∧ Aside0 (Kd.R (Kd.int .i64) 3 wc w.heap.size (fun k_ => some k_ ≠ ((.slice Ao29 t185.length co29) : Value).ownBlock ∧ some k_ ≠ ((.slice Ao35 t191.length co35) : Value).ownBlock) (.slice Ao46 t199.length co46) t199) ∧ Aside0 (wc.heap[gb175]? = some (.cells #[(.slice A0_0 l0_0.length c0_0)] 31 (0, 0))) ∧ Aside0 (wc.heap[gb176]? = some (.cells #[.int .i64 a1_0, .int .i64 a1_1, .int .i64 a1_2, .int .i64 a1_3] 33 (0, 0))) ∧ Aside0 (wc.heap[gb190]? = some (.cells #[(.slice Ao29 t185.length co29)] 36 (0, 0))) ∧ Aside0 (wc.heap[gb194]? = some (.cells #[(.slice Ao35 t191.length co35)] 36 (0, 0))) ∧ Aside0 (wc.heap[gb204]? = some (.cells #[(.slice Ao46 t199.length co46)] 36 (0, 0))) ∧ Aside0 (Below w.heap.size w wc))
  case first =>
   have H := HC16.out
   clear HC16
   replace H := Option.bind_eq_some_iff.mp H
   obtain ⟨t205, A480, H⟩ := H
   replace H : (if t205 = true then (if t202 = t188 then (laws_FnExactDo.j0 k t188 t189 t202 t203 (t203 != t189) l0_0 a1_0 a1_1 a1_2 a1_3 t185 t191 t199) else (laws_FnExactDo.j0 k t188 t189 t202 t203 true l0_0 a1_0 a1_1 a1_2 a1_3 t185 t191 t199)) else (laws_FnExactDo.j0 k t188 t189 t202 t203 true l0_0 a1_0 a1_1 a1_2 a1_3 t185 t191 t199)) = some r := H
   have A48 := Aside0.mk A480
   clear A480
   by_cases c49 : t205 = true
   ·subst c49
    have H1 : (if t202 = t188 then (laws_FnExactDo.j0 k t188 t189 t202 t203 (t203 != t189) l0_0 a1_0 a1_1 a1_2 a1_3 t185 t191 t199) else (laws_FnExactDo.j0 k t188 t189 t202 t203 true l0_0 a1_0 a1_1 a1_2 a1_3 t185 t191 t199)) = some r := by rw [if_pos rfl] at H; exact H
    clear H
    have H := H1
    clear H1
    by_cases c50 : t202 = t188
    ·rw [if_pos c50] at H
     have c50b0 : (t202 == t188) = true := beq_iff_eq.mpr c50
     have c50b1 : (t202 != t188) = false := bne_eq_false_iff_eq.mpr c50
     clear c50
     (first | rw [c50b0] | (simp only [i64_w, i32_w]; rw [c50b0]) | skip)
     have H' := Aside0.mk H
     clear H
     have hnb51 := NB204_175.out
     have hnc51 := NB175_204.out
     have hnb52 := NB204_176.out
     have hnc52 := NB176_204.out
     have hnb53 := NB204_190.out
     have hnc53 := NB190_204.out
     have hnb54 := NB204_194.out
     have hnc54 := NB194_204.out
     have hcz55_0 : w45.cell? ⟨gb204, 0, none⟩ = some (.slice none 0 0) := (blk_cell BK204.out 0).trans rfl
     have hfz55_0 := blk_frozen BK204.out 0
     have hnb56 := NB190_175.out
     have hnc56 := NB175_190.out
     have hnb57 := NB190_176.out
     have hnc57 := NB176_190.out
     have hnb58 := NB190_194.out
     have hnc58 := NB194_190.out
     have hcz59_0 : w45.cell? ⟨gb190, 0, none⟩ = some (.slice Ao29 t185.length co29) := (blk_cell BK190.out 0).trans rfl
     have hfz59_0 := blk_frozen BK190.out 0
     go_wp2_with (first | ((with_reducible refine gate_callee (f := 26) rfl ?_); refine goesL_ (some 45) rfl rfl Try.func26 q3_30 rfl #[.agg #[.slice Ao46 t199.length co46], .agg #[.slice Ao29 t185.length co29]] rfl q3_7 ?_; (with_reducible refine (laws_eqMem.calls k _ _ t199 _ _ t185 true _ ?side1 ?side2 ?side3 ?side4 A48.out).mono ?_); (case side1 => exact q3_38); (case side2 => exact (Kd.R_reads' HO201.out).2.1); (case side3 => exact q3_39); (case side4 => exact (Kd.R_reads' HO187.out).2.1); rintro e w60 ⟨rfl, hb⟩; refine ⟨_, rfl, ?_⟩; have n0_ := Aside0.mk (Kd.R_below q3_50 hb); have n1_ := Aside0.mk (Kd.R_below q3_25 hb); have n2_ := Aside0.mk (Kd.R_below q3_51 hb); have n3_ := Aside0.mk (Kd.R_below q3_24 hb); have n4_ := Aside0.mk (blk_below (g := gb175) (o := .cells #[.slice A0_0 l0_0.length c0_0] 31 (0, 0)) q3_54 hb); have n5_ := Aside0.mk (blk_below (g := gb176) (o := .cells #[.int .i64 a1_0, .int .i64 a1_1, .int .i64 a1_2, .int .i64 a1_3] 33 (0, 0)) q3_55 hb); have n6_ := Aside0.mk (blk_below (g := gb190) (o := .cells #[.slice Ao29 t185.length co29] 36 (0, 0)) q3_56 hb); have n7_ := Aside0.mk (blk_below (g := gb194) (o := .cells #[.slice Ao35 t191.length co35] 36 (0, 0)) q3_57 hb); have n8_ := Aside0.mk (blk_below (g := gb204) (o := .cells #[.slice Ao46 t199.length co46] 36 (0, 0)) q3_43 hb); have n9_ := Aside0.mk (below_step q3_0 hb); clear HO180; clear HO187; clear HO193; clear HO201; clear BK175; clear BK176; clear BK190; clear BK194; clear BK204; clear HB; have HO180 := n0_; have HO187 := n1_; have HO193 := n2_; have HO201 := n3_; have BK175 := n4_; have BK176 := n5_; have BK190 := n6_; have BK194 := n7_; have BK204 := n8_; have HB := n9_; clear n0_ n1_ n2_ n3_ n4_ n5_ n6_ n7_ n8_ n9_; (try clear hb); (try clear hb2); (try clear hk); (try clear hi)))
     go_meet
     case rel => exact ⟨_, ((t203 != t189)), (by first | rfl | (simp; done) | (simp [*]; done)), H', ⟨by first | omega | exact Nat.le_refl _⟩, ⟨by (with_reducible repeat (first | apply Kd.R_alloc | apply Kd.R_drewN | apply Kd.R_drew)); exact Kd.R_mono HO187.out (fun _ hk => ⟨hk.2.1, hk.2.2⟩)⟩, ⟨by (with_reducible repeat (first | apply Kd.R_alloc | apply Kd.R_drewN | apply Kd.R_drew)); exact Kd.R_mono HO193.out (fun _ hk => ⟨hk.2.1, hk.2.2⟩)⟩, ⟨by (with_reducible repeat (first | apply Kd.R_alloc | apply Kd.R_drewN | apply Kd.R_drew)); exact Kd.R_mono HO201.out (fun _ hk => ⟨hk.2.1, hk.2.2⟩)⟩, ⟨q3_1⟩, ⟨q3_2⟩, ⟨q3_3⟩, ⟨q3_5⟩, ⟨q3_6⟩, ⟨q3_0⟩⟩
    ·rw [if_neg c50] at H
     have c50b0 : (t202 == t188) = false := beq_eq_false_iff_ne.mpr c50
     have c50b1 : (t202 != t188) = true := bne_iff_ne.mpr c50
     (first | rw [c50b0] | (simp only [i64_w, i32_w]; rw [c50b0]) | skip)
     have H' := Aside0.mk H
     clear H
     have hnb61 := NB204_175.out
     have hnc61 := NB175_204.out
     have hnb62 := NB204_176.out
     have hnc62 := NB176_204.out
     have hnb63 := NB204_190.out
     have hnc63 := NB190_204.out
     have hnb64 := NB204_194.out
     have hnc64 := NB194_204.out
     have hcz65_0 : w45.cell? ⟨gb204, 0, none⟩ = some (.slice none 0 0) := (blk_cell BK204.out 0).trans rfl
     have hfz65_0 := blk_frozen BK204.out 0
     have hnb66 := NB190_175.out
     have hnc66 := NB175_190.out
     have hnb67 := NB190_176.out
     have hnc67 := NB176_190.out
     have hnb68 := NB190_194.out
     have hnc68 := NB194_190.out
     have hcz69_0 : w45.cell? ⟨gb190, 0, none⟩ = some (.slice Ao29 t185.length co29) := (blk_cell BK190.out 0).trans rfl
     have hfz69_0 := blk_frozen BK190.out 0
     go_wp2_with (first | ((with_reducible refine gate_callee (f := 26) rfl ?_); refine goesL_ (some 45) rfl rfl Try.func26 q3_30 rfl #[.agg #[.slice Ao46 t199.length co46], .agg #[.slice Ao29 t185.length co29]] rfl q3_7 ?_; (with_reducible refine (laws_eqMem.calls k _ _ t199 _ _ t185 true _ ?side1 ?side2 ?side3 ?side4 A48.out).mono ?_); (case side1 => exact q3_38); (case side2 => exact (Kd.R_reads' HO201.out).2.1); (case side3 => exact q3_39); (case side4 => exact (Kd.R_reads' HO187.out).2.1); rintro e w70 ⟨rfl, hb⟩; refine ⟨_, rfl, ?_⟩; have n0_ := Aside0.mk (Kd.R_below q3_50 hb); have n1_ := Aside0.mk (Kd.R_below q3_25 hb); have n2_ := Aside0.mk (Kd.R_below q3_51 hb); have n3_ := Aside0.mk (Kd.R_below q3_24 hb); have n4_ := Aside0.mk (blk_below (g := gb175) (o := .cells #[.slice A0_0 l0_0.length c0_0] 31 (0, 0)) q3_54 hb); have n5_ := Aside0.mk (blk_below (g := gb176) (o := .cells #[.int .i64 a1_0, .int .i64 a1_1, .int .i64 a1_2, .int .i64 a1_3] 33 (0, 0)) q3_55 hb); have n6_ := Aside0.mk (blk_below (g := gb190) (o := .cells #[.slice Ao29 t185.length co29] 36 (0, 0)) q3_56 hb); have n7_ := Aside0.mk (blk_below (g := gb194) (o := .cells #[.slice Ao35 t191.length co35] 36 (0, 0)) q3_57 hb); have n8_ := Aside0.mk (blk_below (g := gb204) (o := .cells #[.slice Ao46 t199.length co46] 36 (0, 0)) q3_43 hb); have n9_ := Aside0.mk (below_step q3_0 hb); clear HO180; clear HO187; clear HO193; clear HO201; clear BK175; clear BK176; clear BK190; clear BK194; clear BK204; clear HB; have HO180 := n0_; have HO187 := n1_; have HO193 := n2_; have HO201 := n3_; have BK175 := n4_; have BK176 := n5_; have BK190 := n6_; have BK194 := n7_; have BK204 := n8_; have HB := n9_; clear n0_ n1_ n2_ n3_ n4_ n5_ n6_ n7_ n8_ n9_; (try clear hb); (try clear hb2); (try clear hk); (try clear hi)))
     go_meet
     case rel => exact ⟨_, (true), (by first | rfl | (simp; done) | (simp [*]; done)), H', ⟨by first | omega | exact Nat.le_refl _⟩, ⟨by (with_reducible repeat (first | apply Kd.R_alloc | apply Kd.R_drewN | apply Kd.R_drew)); exact Kd.R_mono HO187.out (fun _ hk => ⟨hk.2.1, hk.2.2⟩)⟩, ⟨by (with_reducible repeat (first | apply Kd.R_alloc | apply Kd.R_drewN | apply Kd.R_drew)); exact Kd.R_mono HO193.out (fun _ hk => ⟨hk.2.1, hk.2.2⟩)⟩, ⟨by (with_reducible repeat (first | apply Kd.R_alloc | apply Kd.R_drewN | apply Kd.R_drew)); exact Kd.R_mono HO201.out (fun _ hk => ⟨hk.2.1, hk.2.2⟩)⟩, ⟨q3_1⟩, ⟨q3_2⟩, ⟨q3_3⟩, ⟨q3_5⟩, ⟨q3_6⟩, ⟨q3_0⟩⟩
   ·replace c49 := Bool.eq_false_iff.mpr c49
    subst c49
    have H1 : (laws_FnExactDo.j0 k t188 t189 t202 t203 true l0_0 a1_0 a1_1 a1_2 a1_3 t185 t191 t199) = some r := by rw [if_neg (show ¬ (false = true) by decide)] at H; exact H
    clear H
    have H := H1
    clear H1
    have H' := Aside0.mk H
    clear H
    have hnb71 := NB204_175.out
    have hnc71 := NB175_204.out
    have hnb72 := NB204_176.out
    have hnc72 := NB176_204.out
    have hnb73 := NB204_190.out
    have hnc73 := NB190_204.out
    have hnb74 := NB204_194.out
    have hnc74 := NB194_204.out
    have hcz75_0 : w45.cell? ⟨gb204, 0, none⟩ = some (.slice none 0 0) := (blk_cell BK204.out 0).trans rfl
    have hfz75_0 := blk_frozen BK204.out 0
    have hnb76 := NB190_175.out
    have hnc76 := NB175_190.out
    have hnb77 := NB190_176.out
    have hnc77 := NB176_190.out
    have hnb78 := NB190_194.out
    have hnc78 := NB194_190.out
    have hcz79_0 : w45.cell? ⟨gb190, 0, none⟩ = some (.slice Ao29 t185.length co29) := (blk_cell BK190.out 0).trans rfl
    have hfz79_0 := blk_frozen BK190.out 0
    go_wp2_with (first | ((with_reducible refine gate_callee (f := 26) rfl ?_); refine goesL_ (some 45) rfl rfl Try.func26 q3_30 rfl #[.agg #[.slice Ao46 t199.length co46], .agg #[.slice Ao29 t185.length co29]] rfl q3_7 ?_; (with_reducible refine (laws_eqMem.calls k _ _ t199 _ _ t185 false _ ?side1 ?side2 ?side3 ?side4 A48.out).mono ?_); (case side1 => exact q3_38); (case side2 => exact (Kd.R_reads' HO201.out).2.1); (case side3 => exact q3_39); (case side4 => exact (Kd.R_reads' HO187.out).2.1); rintro e w80 ⟨rfl, hb⟩; refine ⟨_, rfl, ?_⟩; have n0_ := Aside0.mk (Kd.R_below q3_50 hb); have n1_ := Aside0.mk (Kd.R_below q3_25 hb); have n2_ := Aside0.mk (Kd.R_below q3_51 hb); have n3_ := Aside0.mk (Kd.R_below q3_24 hb); have n4_ := Aside0.mk (blk_below (g := gb175) (o := .cells #[.slice A0_0 l0_0.length c0_0] 31 (0, 0)) q3_54 hb); have n5_ := Aside0.mk (blk_below (g := gb176) (o := .cells #[.int .i64 a1_0, .int .i64 a1_1, .int .i64 a1_2, .int .i64 a1_3] 33 (0, 0)) q3_55 hb); have n6_ := Aside0.mk (blk_below (g := gb190) (o := .cells #[.slice Ao29 t185.length co29] 36 (0, 0)) q3_56 hb); have n7_ := Aside0.mk (blk_below (g := gb194) (o := .cells #[.slice Ao35 t191.length co35] 36 (0, 0)) q3_57 hb); have n8_ := Aside0.mk (blk_below (g := gb204) (o := .cells #[.slice Ao46 t199.length co46] 36 (0, 0)) q3_43 hb); have n9_ := Aside0.mk (below_step q3_0 hb); clear HO180; clear HO187; clear HO193; clear HO201; clear BK175; clear BK176; clear BK190; clear BK194; clear BK204; clear HB; have HO180 := n0_; have HO187 := n1_; have HO193 := n2_; have HO201 := n3_; have BK175 := n4_; have BK176 := n5_; have BK190 := n6_; have BK194 := n7_; have BK204 := n8_; have HB := n9_; clear n0_ n1_ n2_ n3_ n4_ n5_ n6_ n7_ n8_ n9_; (try clear hb); (try clear hb2); (try clear hk); (try clear hi)))
    go_meet
    case rel => exact ⟨_, (true), (by first | rfl | (simp; done) | (simp [*]; done)), H', ⟨by first | omega | exact Nat.le_refl _⟩, ⟨by (with_reducible repeat (first | apply Kd.R_alloc | apply Kd.R_drewN | apply Kd.R_drew)); exact Kd.R_mono HO187.out (fun _ hk => ⟨hk.2.1, hk.2.2⟩)⟩, ⟨by (with_reducible repeat (first | apply Kd.R_alloc | apply Kd.R_drewN | apply Kd.R_drew)); exact Kd.R_mono HO193.out (fun _ hk => ⟨hk.2.1, hk.2.2⟩)⟩, ⟨by (with_reducible repeat (first | apply Kd.R_alloc | apply Kd.R_drewN | apply Kd.R_drew)); exact Kd.R_mono HO201.out (fun _ hk => ⟨hk.2.1, hk.2.2⟩)⟩, ⟨q3_1⟩, ⟨q3_2⟩, ⟨q3_3⟩, ⟨q3_5⟩, ⟨q3_6⟩, ⟨q3_0⟩⟩
  case rest =>
   clear HC16
   (try clear c2); (try clear p2); (try clear c4); (try clear c5); (try clear c6); (try clear c7); (try clear c24); (try clear c26); (try clear c28); (try clear c49); (try clear c50); (try clear c50b0); (try clear c50b1); (try clear c51); (try clear c52); (try clear c53); (try clear c54); (try clear c56); (try clear c57); (try clear c58); (try clear c61); (try clear c62); (try clear c63); (try clear c64); (try clear c66); (try clear c67); (try clear c68); (try clear c71); (try clear c72); (try clear c73); (try clear c74); (try clear c76); (try clear c77); (try clear c78); (try clear hcz55_0); (try clear hcz59_0); (try clear hcz65_0); (try clear hcz69_0); (try clear hcz75_0); (try clear hcz79_0); (try clear hfz55_0); (try clear hfz59_0); (try clear hfz65_0); (try clear hfz69_0); (try clear hfz75_0); (try clear hfz79_0)
   obtain ⟨kq, x56_15, rfl, HA, HJ15, HO_191000, HO_195000, HO_205000, BK175, BK176, BK190, BK194, BK204, HB⟩ := hcut
   cases kq with
   | zero => exact absurd HA.out (by simp [laws_FnExactDo.j0])
   | succ kj15 =>
    have H := HA.out
    clear HA
    simp only [laws_FnExactDo.j0] at H
    by_cases c81 : x56_15 = true
    ·subst c81
     have H1 : (some false) = some r := by rw [if_pos rfl] at H; exact H
     clear H
     have H := H1
     clear H1
     obtain rfl := Option.some.inj H
     go_wp2
     go_ret
     exact ⟨q3_31, q3_0⟩
    ·replace c81 := Bool.eq_false_iff.mpr c81
     subst c81
     have H1 : ((laws_toMem.f kj15 l0_0).bind fun t206 => ((laws_eqMem.f kj15 t191 t206).bind fun t209 => (if t209 = true then ((laws_markMem.f kj15 t191 1).bind fun bt210 => (if bt210.1 < 0 then (laws_FnExactDo.j1 kj15 t188 t189 true l0_0 a1_0 a1_1 a1_2 a1_3 t185 t199) else ((laws_eqMem.f kj15 t199 t185).bind fun t212 => (if t212 = true then (if t202 = t188 then (laws_FnExactDo.j1 kj15 t188 t189 (t203 != t189) l0_0 a1_0 a1_1 a1_2 a1_3 t185 t199) else (laws_FnExactDo.j1 kj15 t188 t189 true l0_0 a1_0 a1_1 a1_2 a1_3 t185 t199)) else (laws_FnExactDo.j1 kj15 t188 t189 true l0_0 a1_0 a1_1 a1_2 a1_3 t185 t199))))) else (some false)))) = some r := by rw [if_neg (show ¬ (false = true) by decide)] at H; exact H
     clear H
     have H := H1
     clear H1
     replace H := Option.bind_eq_some_iff.mp H
     obtain ⟨t206, A820, H⟩ := H
     replace H : ((laws_eqMem.f kj15 t191 t206).bind fun t209 => (if t209 = true then ((laws_markMem.f kj15 t191 1).bind fun bt210 => (if bt210.1 < 0 then (laws_FnExactDo.j1 kj15 t188 t189 true l0_0 a1_0 a1_1 a1_2 a1_3 t185 t199) else ((laws_eqMem.f kj15 t199 t185).bind fun t212 => (if t212 = true then (if t202 = t188 then (laws_FnExactDo.j1 kj15 t188 t189 (t203 != t189) l0_0 a1_0 a1_1 a1_2 a1_3 t185 t199) else (laws_FnExactDo.j1 kj15 t188 t189 true l0_0 a1_0 a1_1 a1_2 a1_3 t185 t199)) else (laws_FnExactDo.j1 kj15 t188 t189 true l0_0 a1_0 a1_1 a1_2 a1_3 t185 t199))))) else (some false))) = some r := H
     have A82 := Aside0.mk A820
     clear A820
     replace H := Option.bind_eq_some_iff.mp H
     obtain ⟨t209, A830, H⟩ := H
     replace H : (if t209 = true then ((laws_markMem.f kj15 t191 1).bind fun bt210 => (if bt210.1 < 0 then (laws_FnExactDo.j1 kj15 t188 t189 true l0_0 a1_0 a1_1 a1_2 a1_3 t185 t199) else ((laws_eqMem.f kj15 t199 t185).bind fun t212 => (if t212 = true then (if t202 = t188 then (laws_FnExactDo.j1 kj15 t188 t189 (t203 != t189) l0_0 a1_0 a1_1 a1_2 a1_3 t185 t199) else (laws_FnExactDo.j1 kj15 t188 t189 true l0_0 a1_0 a1_1 a1_2 a1_3 t185 t199)) else (laws_FnExactDo.j1 kj15 t188 t189 true l0_0 a1_0 a1_1 a1_2 a1_3 t185 t199))))) else (some false)) = some r := H
     have A83 := Aside0.mk A830
     clear A830
     by_cases c84 : t209 = true
     ·subst c84
      have H1 : ((laws_markMem.f kj15 t191 1).bind fun bt210 => (if bt210.1 < 0 then (laws_FnExactDo.j1 kj15 t188 t189 true l0_0 a1_0 a1_1 a1_2 a1_3 t185 t199) else ((laws_eqMem.f kj15 t199 t185).bind fun t212 => (if t212 = true then (if t202 = t188 then (laws_FnExactDo.j1 kj15 t188 t189 (t203 != t189) l0_0 a1_0 a1_1 a1_2 a1_3 t185 t199) else (laws_FnExactDo.j1 kj15 t188 t189 true l0_0 a1_0 a1_1 a1_2 a1_3 t185 t199)) else (laws_FnExactDo.j1 kj15 t188 t189 true l0_0 a1_0 a1_1 a1_2 a1_3 t185 t199))))) = some r := by rw [if_pos rfl] at H; exact H
      clear H
      have H := H1
      clear H1
      replace H := Option.bind_eq_some_iff.mp H
      obtain ⟨⟨t210, t211⟩, A850, H⟩ := H
      replace H : (if t210 < 0 then (laws_FnExactDo.j1 kj15 t188 t189 true l0_0 a1_0 a1_1 a1_2 a1_3 t185 t199) else ((laws_eqMem.f kj15 t199 t185).bind fun t212 => (if t212 = true then (if t202 = t188 then (laws_FnExactDo.j1 kj15 t188 t189 (t203 != t189) l0_0 a1_0 a1_1 a1_2 a1_3 t185 t199) else (laws_FnExactDo.j1 kj15 t188 t189 true l0_0 a1_0 a1_1 a1_2 a1_3 t185 t199)) else (laws_FnExactDo.j1 kj15 t188 t189 true l0_0 a1_0 a1_1 a1_2 a1_3 t185 t199)))) = some r := H
      have A85 := Aside0.mk A850
      clear A850
      have HC86 := Aside0.mk H
      clear H
      try go_wp2
      have n0_ := Aside0.mk (Kd.R_drew HO_191000.out)
      have n1_ := Aside0.mk (Kd.R_drew HO_195000.out)
      have n2_ := Aside0.mk (Kd.R_drew HO_205000.out)
      have n3_ := Aside0.mk (blk_drew BK175.out)
      have n4_ := Aside0.mk (blk_drew BK176.out)
      have n5_ := Aside0.mk (blk_drew BK190.out)
      have n6_ := Aside0.mk (blk_drew BK194.out)
      have n7_ := Aside0.mk (blk_drew BK204.out)
      have n8_ := Aside0.mk (below_drew1 HB.out)
      clear HO_191000
      clear HO_195000
      clear HO_205000
      clear BK175
      clear BK176
      clear BK190
      clear BK194
      clear BK204
      clear HB
      have HO_191000 := n0_
      have HO_195000 := n1_
      have HO_205000 := n2_
      have BK175 := n3_
      have BK176 := n4_
      have BK190 := n5_
      have BK194 := n6_
      have BK204 := n7_
      have HB := n8_
      clear n0_ n1_ n2_ n3_ n4_ n5_ n6_ n7_ n8_
      refine start_ (n := 5) (S := fun w' => w'.cell? ⟨gb194, 0, none⟩ = some (.slice Ao35 t191.length co35) ∧ w'.cell? ⟨gb175, 0, none⟩ = some (.slice A0_0 l0_0.length c0_0)) (ds := []) #[F,F,F,F,F] q3_30 rfl rfl ⟨(blk_cell BK194.out 0).trans rfl, (blk_cell BK175.out 0).trans rfl⟩ (fun hHeld => ?_)
      generalize wc.drew = w87 at HO_191000 HO_195000 HO_205000 BK175 BK176 BK190 BK194 BK204 HB hHeld ⊢
      refine take_ (i := 0) (N := some 57) (v := ?_) (a' := ?_) #[T,F,F,F,F] rfl rfl q3_30 (fun _ _ _ h => h) (Or.inl ⟨by rfl, ?_⟩) hHeld ?_ ?_
      rotate_left
      ·rintro w' ⟨s0, s1⟩
       go_simp
       with_reducible rfl
      rotate_left
      ·simp only [Act.put, List.setIfInBounds_toArray, List.set_cons_zero, List.set_cons_succ, i64_w, i32_w]
       rfl
      refine take_ (i := 1) (N := some 58) (v := ?_) (a' := ?_) #[T,T,F,F,F] rfl rfl q3_30 (fun _ _ _ h => h) (Or.inl ⟨by rfl, ?_⟩) hHeld ?_ ?_
      rotate_left
      ·rintro w' ⟨s0, s1⟩
       go_simp
       with_reducible rfl
      rotate_left
      ·simp only [Act.put, List.setIfInBounds_toArray, List.set_cons_zero, List.set_cons_succ, i64_w, i32_w]
       rfl
      refine one_ (i := 2) (N := some 59) #[T,T,T,F,F] rfl rfl q3_30 (by decide) (fun K hK => ?_)
      refine goes_ Try.func23 q3_30 rfl #[.agg #[.slice A0_0 l0_0.length c0_0]] (by rfl) rfl rfl q3_7 ?_
      with_reducible refine (laws_toMem.calls kj15 _ _ l0_0 t206 _ ?side1 ?side2 A82.out).mono ?_
      (case side1 => exact q3_27)
      (case side2 => exact HC0_0.out)
      rintro e w88 ⟨v207, rfl, ho0, hb⟩
      refine ⟨_, rfl, ?_⟩
      have n0_ := Aside0.mk (Kd.R_elder' q3_10 (Kd.R_base ho0) hb)
      have n1_ := Aside0.mk (Kd.R_elder' q3_11 (Kd.R_base ho0) hb)
      have n2_ := Aside0.mk (Kd.R_elder' q3_12 (Kd.R_base ho0) hb)
      have n3_ := Aside0.mk (Kd.R_lower (Kd.R_new' (Kd.R_new' (Kd.R_new' ho0 (Kd.R_lt q3_10)) (Kd.R_lt q3_11)) (Kd.R_lt q3_12)) (below_size q3_0))
      have n4_ := Aside0.mk (blk_below (g := gb175) (o := .cells #[.slice A0_0 l0_0.length c0_0] 31 (0, 0)) q3_1 hb)
      have n5_ := Aside0.mk (blk_below (g := gb176) (o := .cells #[.int .i64 a1_0, .int .i64 a1_1, .int .i64 a1_2, .int .i64 a1_3] 33 (0, 0)) q3_2 hb)
      have n6_ := Aside0.mk (blk_below (g := gb190) (o := .cells #[.slice Ao29 t185.length co29] 36 (0, 0)) q3_3 hb)
      have n7_ := Aside0.mk (blk_below (g := gb194) (o := .cells #[.slice Ao35 t191.length co35] 36 (0, 0)) q3_5 hb)
      have n8_ := Aside0.mk (blk_below (g := gb204) (o := .cells #[.slice Ao46 t199.length co46] 36 (0, 0)) q3_6 hb)
      have n9_ := Aside0.mk (below_step q3_0 hb)
      clear HO_191000
      clear HO_195000
      clear HO_205000
      clear BK175
      clear BK176
      clear BK190
      clear BK194
      clear BK204
      clear HB
      have HO_191000 := n0_
      have HO_195000 := n1_
      have HO_205000 := n2_
      have HO208 := n3_
      have BK175 := n4_
      have BK176 := n5_
      have BK190 := n6_
      have BK194 := n7_
      have BK204 := n8_
      have HB := n9_
      clear n0_ n1_ n2_ n3_ n4_ n5_ n6_ n7_ n8_ n9_
      (try clear hb)
      (try clear hb2)
      (try clear hk)
      (try clear hi)
      (try clear ho0)
      obtain ⟨Ao89, co89, eo89⟩ := Kd.R_slice HO208.out
      (first | subst eo89 | (injection eo89 with f1_ f2_ f3_; have f4_ := f1_.symm; have f5_ := f3_.symm; clear f1_ f2_ f3_; subst f4_; subst f5_))
      refine hK.out _ _ ⟨(blk_cell BK194.out 0).trans rfl, (blk_cell BK175.out 0).trans rfl⟩ (fun hHeld => ?_)
      clear hK K
      refine norm_ (a' := ?_) ?_ ?_
      rotate_left
      ·show Act.put _ (some 59) _ = _
       simp only [Act.put, List.setIfInBounds_toArray, List.set_cons_zero, List.set_cons_succ, i64_w, i32_w]
       rfl
      refine one_ (i := 3) (N := some 60) #[T,T,T,T,F] rfl rfl q3_30 (by decide) (fun K hK => ?_)
      refine goes_ Try.func26 q3_30 rfl #[.agg #[.slice Ao35 t191.length co35], .agg #[.slice Ao89 t206.length co89]] (by rfl) rfl rfl q3_7 ?_
      with_reducible refine (laws_eqMem.calls kj15 _ _ t191 _ _ t206 true _ ?side1 ?side2 ?side3 ?side4 A83.out).mono ?_
      (case side1 => repeat (first | exact (Kd.R_reads' HO_195000.out).2.2 | (with_reducible refine Kd.C_alloc ?_ _) | (with_reducible refine Kd.C_drewN ?_ _) | (with_reducible refine Kd.C_drew ?_)))
      (case side2 => exact (Kd.R_reads' HO_195000.out).2.1)
      (case side3 => repeat (first | exact (Kd.R_reads' HO208.out).2.2 | (with_reducible refine Kd.C_alloc ?_ _) | (with_reducible refine Kd.C_drewN ?_ _) | (with_reducible refine Kd.C_drew ?_)))
      (case side4 => exact (Kd.R_reads' HO208.out).2.1)
      rintro e w90 ⟨rfl, hb⟩
      refine ⟨_, rfl, ?_⟩
      have n0_ := Aside0.mk (Kd.R_below q3_10 hb)
      have n1_ := Aside0.mk (Kd.R_below q3_11 hb)
      have n2_ := Aside0.mk (Kd.R_below q3_12 hb)
      have n3_ := Aside0.mk (Kd.R_below (by (with_reducible repeat (first | apply Kd.R_alloc | apply Kd.R_drewN | apply Kd.R_drew)); exact HO208.out) hb)
      have n4_ := Aside0.mk (blk_below (g := gb175) (o := .cells #[.slice A0_0 l0_0.length c0_0] 31 (0, 0)) q3_1 hb)
      have n5_ := Aside0.mk (blk_below (g := gb176) (o := .cells #[.int .i64 a1_0, .int .i64 a1_1, .int .i64 a1_2, .int .i64 a1_3] 33 (0, 0)) q3_2 hb)
      have n6_ := Aside0.mk (blk_below (g := gb190) (o := .cells #[.slice Ao29 t185.length co29] 36 (0, 0)) q3_3 hb)
      have n7_ := Aside0.mk (blk_below (g := gb194) (o := .cells #[.slice Ao35 t191.length co35] 36 (0, 0)) q3_5 hb)
      have n8_ := Aside0.mk (blk_below (g := gb204) (o := .cells #[.slice Ao46 t199.length co46] 36 (0, 0)) q3_6 hb)
      have n9_ := Aside0.mk (below_step q3_0 hb)
      clear HO_191000
      clear HO_195000
      clear HO_205000
      clear HO208
      clear BK175
      clear BK176
      clear BK190
      clear BK194
      clear BK204
      clear HB
      have HO_191000 := n0_
      have HO_195000 := n1_
      have HO_205000 := n2_
      have HO208 := n3_
      have BK175 := n4_
      have BK176 := n5_
      have BK190 := n6_
      have BK194 := n7_
      have BK204 := n8_
      have HB := n9_
      clear n0_ n1_ n2_ n3_ n4_ n5_ n6_ n7_ n8_ n9_
      (try clear hb)
      (try clear hb2)
      (try clear hk)
      (try clear hi)
      refine hK.out _ _ ⟨(blk_cell BK194.out 0).trans rfl, (blk_cell BK175.out 0).trans rfl⟩ (fun hHeld => ?_)
      clear hK K
      refine norm_ (a' := ?_) ?_ ?_
      rotate_left
      ·show Act.put _ (some 60) _ = _
       simp only [Act.put, List.setIfInBounds_toArray, List.set_cons_zero, List.set_cons_succ, i64_w, i32_w]
       rfl
      refine pure_ (i := 4) (N := some 61) (v := ?_) (a' := ?_) #[T,T,T,T,T] rfl rfl q3_30 (fun _ _ _ h => h) (Or.inl ⟨by rfl, ?_⟩) ?_ ?_
      rotate_left
      ·intro w'
       go_simp
       with_reducible rfl
      rotate_left
      ·simp only [Act.put, List.setIfInBounds_toArray, List.set_cons_zero, List.set_cons_succ, i64_w, i32_w]
       rfl
      refine done_ q3_30 ?_
      have hnb91 := NB194_175.out
      have hnc91 := NB175_194.out
      have hnb92 := NB194_176.out
      have hnc92 := NB176_194.out
      have hnb93 := NB194_190.out
      have hnc93 := NB190_194.out
      have hnb94 := NB194_204.out
      have hnc94 := NB204_194.out
      have hcz95_0 : w90.cell? ⟨gb194, 0, none⟩ = some (.slice Ao35 t191.length co35) := (blk_cell BK194.out 0).trans rfl
      have hfz95_0 := blk_frozen BK194.out 0
      go_upto_region 14 with (first | ((with_reducible refine gate_callee (f := 29) rfl ?_); refine goesL_ (some 64) rfl rfl Try.func29 q3_30 rfl #[.agg #[.slice Ao35 t191.length co35], .int .i64 1] rfl q3_7 ?_; (with_reducible refine (laws_markMem.calls kj15 (fun k_ => some k_ = (.slice Ao35 t191.length co35 : Value).ownBlock) (.slice Ao35 t191.length co35) t191 1 t210 t211 w _ ?side1 ?side2 A85.out).mono ?_); (case side1 => exact q3_0); (case side2 => exact Kd.R_tight rfl HO_195000.out); rintro e w96 ⟨rfl, hy0, hb, hkp⟩; refine ⟨_, rfl, ?_⟩; have n0_ := Aside0.mk (Kd.R_mono (ok' := fun k_ => some k_ ≠ (.slice Ao35 t191.length co35 : Value).ownBlock ∧ some k_ ≠ (.slice Ao46 t199.length co46 : Value).ownBlock ∧ some k_ ≠ (.slice Ao89 t206.length co89 : Value).ownBlock) (Kd.R_keptB (HO_191000.out) hkp (fun k_ hk_ hs_ => (hk_.1.1) hs_)) (fun k_ hk_ => ⟨hk_.1.1.1, hk_.1.1.2, hk_.1.2⟩)); have n1_ := Aside0.mk (Kd.R_reok rfl hy0 (fun k_ e_ => HO_195000.out.1 k_ e_)); have n2_ := Aside0.mk (Kd.R_mono (ok' := fun k_ => some k_ ≠ (.slice Ao29 t185.length co29 : Value).ownBlock ∧ some k_ ≠ (.slice Ao35 t191.length co35 : Value).ownBlock ∧ some k_ ≠ (.slice Ao89 t206.length co89 : Value).ownBlock) (Kd.R_keptB (HO_205000.out) hkp (fun k_ hk_ hs_ => (hk_.1.2) hs_)) (fun k_ hk_ => ⟨hk_.1.1.1, hk_.1.1.2, hk_.1.2⟩)); have n3_ := Aside0.mk (blk_kept q3_1 hkp (fun hs_ => (fun e_ => (Kd.R_ne HO_195000.out BK175.out (by decide)) e_) hs_)); have n4_ := Aside0.mk (blk_kept q3_2 hkp (fun hs_ => (fun e_ => (Kd.R_ne HO_195000.out BK176.out (by decide)) e_) hs_)); have n5_ := Aside0.mk (blk_kept q3_3 hkp (fun hs_ => (fun e_ => (Kd.R_ne HO_195000.out BK190.out (by decide)) e_) hs_)); have n6_ := Aside0.mk (blk_kept q3_5 hkp (fun hs_ => (fun e_ => (Kd.R_ne HO_195000.out BK194.out (by decide)) e_) hs_)); have n7_ := Aside0.mk (blk_kept q3_6 hkp (fun hs_ => (fun e_ => (Kd.R_ne HO_195000.out BK204.out (by decide)) e_) hs_)); have n8_ := Aside0.mk (Kd.R_mono (ok' := fun k_ => some k_ ≠ (.slice Ao29 t185.length co29 : Value).ownBlock ∧ some k_ ≠ (.slice Ao35 t191.length co35 : Value).ownBlock ∧ some k_ ≠ (.slice Ao46 t199.length co46 : Value).ownBlock) (Kd.R_keptB (HO208.out) hkp (fun k_ hk_ hs_ => (hk_.1.2) hs_)) (fun k_ hk_ => ⟨hk_.1.1.1.2, hk_.1.1.2, hk_.1.2⟩)); have n9_ := Aside0.mk (hb); clear HO_191000; clear HO_195000; clear HO_205000; clear BK175; clear BK176; clear BK190; clear BK194; clear BK204; clear HO208; clear HB; have HO_191000 := n0_; have HO_195000 := n1_; have HO_205000 := n2_; have BK175 := n3_; have BK176 := n4_; have BK190 := n5_; have BK194 := n6_; have BK204 := n7_; have HO208 := n8_; have HB := n9_; clear n0_ n1_ n2_ n3_ n4_ n5_ n6_ n7_ n8_ n9_; (try clear hb); (try clear hkp); (try clear hy0)))
      (try simp only [Act.put, List.setIfInBounds_toArray, List.set_cons_zero, List.set_cons_succ])
      go_cut [82] (fun v82 wc => ∃ (kq : Nat) (x82_85 : Bool), v82 = .bool x82_85 ∧ Aside0 (laws_FnExactDo.j1 kq t188 t189 x82_85 l0_0 a1_0 a1_1 a1_2 a1_3 t185 t199 = some r) ∧ Aside0 (kq ≤ kj15) ∧ Aside0 (Kd.R (Kd.int .i64) 3 wc w.heap.size (fun k_ => some k_ ≠ ((.slice Ao35 t191.length co35) : Value).ownBlock ∧ some k_ ≠ ((.slice Ao46 t199.length co46) : Value).ownBlock) (.slice Ao29 t185.length co29) t185) ∧ Aside0 (Kd.R (Kd.int .i64) 3 wc w.heap.size (fun k_ => some k_ ≠ ((.slice Ao29 t185.length co29) : Value).ownBlock ∧ some k_ ≠ ((.slice Ao46 t199.length co46) : Value).ownBlock) (.slice Ao35 t191.length co35) t211) ∧ Aside0 (Kd.R (Kd.int .i64) 3 wc w.heap.size (fun k_ => some k_ ≠ ((.slice Ao29 t185.length co29) : Value).ownBlock ∧ some k_ ≠ ((.slice Ao35 t191.length co35) : Value).ownBlock) (.slice Ao46 t199.length co46) t199) ∧ Aside0 (wc.heap[gb175]? = some (.cells #[(.slice A0_0 l0_0.length c0_0)] 31 (0, 0))) ∧ Aside0 (wc.heap[gb176]? = some (.cells #[.int .i64 a1_0, .int .i64 a1_1, .int .i64 a1_2, .int .i64 a1_3] 33 (0, 0))) ∧ Aside0 (wc.heap[gb190]? = some (.cells #[(.slice Ao29 t185.length co29)] 36 (0, 0))) ∧ Aside0 (wc.heap[gb194]? = some (.cells #[(.slice Ao35 t191.length co35)] 36 (0, 0))) ∧ Aside0 (wc.heap[gb204]? = some (.cells #[(.slice Ao46 t199.length co46)] 36 (0, 0))) ∧ Aside0 (Below w.heap.size w wc))
      case first =>
       have H := HC86.out
       clear HC86
       by_cases c97 : t210 < 0
       ·rw [if_pos c97] at H
        have c97b0 : decide (t210 < 0) = true := decide_eq_true c97
        clear c97
        (first | rw [c97b0] | (simp only [i64_w, i32_w]; rw [c97b0]) | skip)
        have H' := Aside0.mk H
        clear H
        go_wp2
        go_meet
        case rel => exact ⟨_, (true), (by first | rfl | (simp; done) | (simp [*]; done)), H', ⟨by have := HJ15.out; first | omega | exact Nat.le_refl _⟩, ⟨by (with_reducible repeat (first | apply Kd.R_alloc | apply Kd.R_drewN | apply Kd.R_drew)); exact Kd.R_mono HO_191000.out (fun _ hk => ⟨hk.1, hk.2.1⟩)⟩, ⟨by (with_reducible repeat (first | apply Kd.R_alloc | apply Kd.R_drewN | apply Kd.R_drew)); exact Kd.R_mono HO_195000.out (fun _ hk => ⟨hk.1.1, hk.1.2⟩)⟩, ⟨by (with_reducible repeat (first | apply Kd.R_alloc | apply Kd.R_drewN | apply Kd.R_drew)); exact Kd.R_mono HO_205000.out (fun _ hk => ⟨hk.1, hk.2.1⟩)⟩, ⟨q3_1⟩, ⟨q3_2⟩, ⟨q3_3⟩, ⟨q3_5⟩, ⟨q3_6⟩, ⟨q3_0⟩⟩
       ·rw [if_neg c97] at H
        have c97b0 : decide (t210 < 0) = false := decide_eq_false c97
        clear c97
        (first | rw [c97b0] | (simp only [i64_w, i32_w]; rw [c97b0]) | skip)
        replace H := Option.bind_eq_some_iff.mp H
        obtain ⟨t212, A980, H⟩ := H
        replace H : (if t212 = true then (if t202 = t188 then (laws_FnExactDo.j1 kj15 t188 t189 (t203 != t189) l0_0 a1_0 a1_1 a1_2 a1_3 t185 t199) else (laws_FnExactDo.j1 kj15 t188 t189 true l0_0 a1_0 a1_1 a1_2 a1_3 t185 t199)) else (laws_FnExactDo.j1 kj15 t188 t189 true l0_0 a1_0 a1_1 a1_2 a1_3 t185 t199)) = some r := H
        have A98 := Aside0.mk A980
        clear A980
        by_cases c99 : t212 = true
        ·subst c99
         have H1 : (if t202 = t188 then (laws_FnExactDo.j1 kj15 t188 t189 (t203 != t189) l0_0 a1_0 a1_1 a1_2 a1_3 t185 t199) else (laws_FnExactDo.j1 kj15 t188 t189 true l0_0 a1_0 a1_1 a1_2 a1_3 t185 t199)) = some r := by rw [if_pos rfl] at H; exact H
         clear H
         have H := H1
         clear H1
         by_cases c100 : t202 = t188
         ·rw [if_pos c100] at H
          have c100b0 : (t202 == t188) = true := beq_iff_eq.mpr c100
          have c100b1 : (t202 != t188) = false := bne_eq_false_iff_eq.mpr c100
          clear c100
          have H' := Aside0.mk H
          clear H
          have hnb101 := NB204_175.out
          have hnc101 := NB175_204.out
          have hnb102 := NB204_176.out
          have hnc102 := NB176_204.out
          have hnb103 := NB204_190.out
          have hnc103 := NB190_204.out
          have hnb104 := NB204_194.out
          have hnc104 := NB194_204.out
          have hcz105_0 : w96.cell? ⟨gb204, 0, none⟩ = some (.slice Ao46 t199.length co46) := (blk_cell BK204.out 0).trans rfl
          have hfz105_0 := blk_frozen BK204.out 0
          have hnb106 := NB190_175.out
          have hnc106 := NB175_190.out
          have hnb107 := NB190_176.out
          have hnc107 := NB176_190.out
          have hnb108 := NB190_194.out
          have hnc108 := NB194_190.out
          have hcz109_0 : w96.cell? ⟨gb190, 0, none⟩ = some (.slice Ao29 t185.length co29) := (blk_cell BK190.out 0).trans rfl
          have hfz109_0 := blk_frozen BK190.out 0
          go_wp2_with (first | (go_at_call 26; (with_reducible refine (laws_eqMem.calls kj15 _ _ t199 _ _ t185 true _ ?side1 ?side2 ?side3 ?side4 A98.out).mono ?_); (case side1 => exact q3_19); (case side2 => exact (Kd.R_reads' HO_205000.out).2.1); (case side3 => repeat (first | exact (Kd.R_reads' HO_191000.out).2.2 | (with_reducible refine Kd.C_alloc ?_ _) | (with_reducible refine Kd.C_drewN ?_ _) | (with_reducible refine Kd.C_drew ?_))); (case side4 => exact (Kd.R_reads' HO_191000.out).2.1); rintro e w110 ⟨rfl, hb⟩; have n0_ := Aside0.mk (Kd.R_below q3_10 hb); have n1_ := Aside0.mk (Kd.R_below q3_11 hb); have n2_ := Aside0.mk (Kd.R_below q3_12 hb); have n3_ := Aside0.mk (Kd.R_below (by (with_reducible repeat (first | apply Kd.R_alloc | apply Kd.R_drewN | apply Kd.R_drew)); exact HO208.out) hb); have n4_ := Aside0.mk (blk_below (g := gb175) (o := .cells #[.slice A0_0 l0_0.length c0_0] 31 (0, 0)) q3_1 hb); have n5_ := Aside0.mk (blk_below (g := gb176) (o := .cells #[.int .i64 a1_0, .int .i64 a1_1, .int .i64 a1_2, .int .i64 a1_3] 33 (0, 0)) q3_2 hb); have n6_ := Aside0.mk (blk_below (g := gb190) (o := .cells #[.slice Ao29 t185.length co29] 36 (0, 0)) q3_3 hb); have n7_ := Aside0.mk (blk_below (g := gb194) (o := .cells #[.slice Ao35 t191.length co35] 36 (0, 0)) q3_5 hb); have n8_ := Aside0.mk (blk_below (g := gb204) (o := .cells #[.slice Ao46 t199.length co46] 36 (0, 0)) q3_6 hb); have n9_ := Aside0.mk (below_step q3_0 hb); clear HO_191000; clear HO_195000; clear HO_205000; clear HO208; clear BK175; clear BK176; clear BK190; clear BK194; clear BK204; clear HB; have HO_191000 := n0_; have HO_195000 := n1_; have HO_205000 := n2_; have HO208 := n3_; have BK175 := n4_; have BK176 := n5_; have BK190 := n6_; have BK194 := n7_; have BK204 := n8_; have HB := n9_; clear n0_ n1_ n2_ n3_ n4_ n5_ n6_ n7_ n8_ n9_; (try clear hb); (try clear hb2); (try clear hk); (try clear hi)))
          go_meet
          case rel => exact ⟨_, ((t203 != t189)), (by first | rfl | (simp; done) | (simp [*]; done)), H', ⟨by have := HJ15.out; first | omega | exact Nat.le_refl _⟩, ⟨by (with_reducible repeat (first | apply Kd.R_alloc | apply Kd.R_drewN | apply Kd.R_drew)); exact Kd.R_mono HO_191000.out (fun _ hk => ⟨hk.1, hk.2.1⟩)⟩, ⟨by (with_reducible repeat (first | apply Kd.R_alloc | apply Kd.R_drewN | apply Kd.R_drew)); exact Kd.R_mono HO_195000.out (fun _ hk => ⟨hk.1.1, hk.1.2⟩)⟩, ⟨by (with_reducible repeat (first | apply Kd.R_alloc | apply Kd.R_drewN | apply Kd.R_drew)); exact Kd.R_mono HO_205000.out (fun _ hk => ⟨hk.1, hk.2.1⟩)⟩, ⟨q3_1⟩, ⟨q3_2⟩, ⟨q3_3⟩, ⟨q3_5⟩, ⟨q3_6⟩, ⟨q3_0⟩⟩
         ·rw [if_neg c100] at H
          have c100b0 : (t202 == t188) = false := beq_eq_false_iff_ne.mpr c100
          have c100b1 : (t202 != t188) = true := bne_iff_ne.mpr c100
          have H' := Aside0.mk H
          clear H
          have hnb111 := NB204_175.out
          have hnc111 := NB175_204.out
          have hnb112 := NB204_176.out
          have hnc112 := NB176_204.out
          have hnb113 := NB204_190.out
          have hnc113 := NB190_204.out
          have hnb114 := NB204_194.out
          have hnc114 := NB194_204.out
          have hcz115_0 : w96.cell? ⟨gb204, 0, none⟩ = some (.slice Ao46 t199.length co46) := (blk_cell BK204.out 0).trans rfl
          have hfz115_0 := blk_frozen BK204.out 0
          have hnb116 := NB190_175.out
          have hnc116 := NB175_190.out
          have hnb117 := NB190_176.out
          have hnc117 := NB176_190.out
          have hnb118 := NB190_194.out
          have hnc118 := NB194_190.out
          have hcz119_0 : w96.cell? ⟨gb190, 0, none⟩ = some (.slice Ao29 t185.length co29) := (blk_cell BK190.out 0).trans rfl
          have hfz119_0 := blk_frozen BK190.out 0
          go_wp2_with (first | (go_at_call 26; (with_reducible refine (laws_eqMem.calls kj15 _ _ t199 _ _ t185 true _ ?side1 ?side2 ?side3 ?side4 A98.out).mono ?_); (case side1 => exact q3_19); (case side2 => exact (Kd.R_reads' HO_205000.out).2.1); (case side3 => repeat (first | exact (Kd.R_reads' HO_191000.out).2.2 | (with_reducible refine Kd.C_alloc ?_ _) | (with_reducible refine Kd.C_drewN ?_ _) | (with_reducible refine Kd.C_drew ?_))); (case side4 => exact (Kd.R_reads' HO_191000.out).2.1); rintro e w120 ⟨rfl, hb⟩; have n0_ := Aside0.mk (Kd.R_below q3_10 hb); have n1_ := Aside0.mk (Kd.R_below q3_11 hb); have n2_ := Aside0.mk (Kd.R_below q3_12 hb); have n3_ := Aside0.mk (Kd.R_below (by (with_reducible repeat (first | apply Kd.R_alloc | apply Kd.R_drewN | apply Kd.R_drew)); exact HO208.out) hb); have n4_ := Aside0.mk (blk_below (g := gb175) (o := .cells #[.slice A0_0 l0_0.length c0_0] 31 (0, 0)) q3_1 hb); have n5_ := Aside0.mk (blk_below (g := gb176) (o := .cells #[.int .i64 a1_0, .int .i64 a1_1, .int .i64 a1_2, .int .i64 a1_3] 33 (0, 0)) q3_2 hb); have n6_ := Aside0.mk (blk_below (g := gb190) (o := .cells #[.slice Ao29 t185.length co29] 36 (0, 0)) q3_3 hb); have n7_ := Aside0.mk (blk_below (g := gb194) (o := .cells #[.slice Ao35 t191.length co35] 36 (0, 0)) q3_5 hb); have n8_ := Aside0.mk (blk_below (g := gb204) (o := .cells #[.slice Ao46 t199.length co46] 36 (0, 0)) q3_6 hb); have n9_ := Aside0.mk (below_step q3_0 hb); clear HO_191000; clear HO_195000; clear HO_205000; clear HO208; clear BK175; clear BK176; clear BK190; clear BK194; clear BK204; clear HB; have HO_191000 := n0_; have HO_195000 := n1_; have HO_205000 := n2_; have HO208 := n3_; have BK175 := n4_; have BK176 := n5_; have BK190 := n6_; have BK194 := n7_; have BK204 := n8_; have HB := n9_; clear n0_ n1_ n2_ n3_ n4_ n5_ n6_ n7_ n8_ n9_; (try clear hb); (try clear hb2); (try clear hk); (try clear hi)))
          go_meet
          case rel => exact ⟨_, (true), (by first | rfl | (simp; done) | (simp [*]; done)), H', ⟨by have := HJ15.out; first | omega | exact Nat.le_refl _⟩, ⟨by (with_reducible repeat (first | apply Kd.R_alloc | apply Kd.R_drewN | apply Kd.R_drew)); exact Kd.R_mono HO_191000.out (fun _ hk => ⟨hk.1, hk.2.1⟩)⟩, ⟨by (with_reducible repeat (first | apply Kd.R_alloc | apply Kd.R_drewN | apply Kd.R_drew)); exact Kd.R_mono HO_195000.out (fun _ hk => ⟨hk.1.1, hk.1.2⟩)⟩, ⟨by (with_reducible repeat (first | apply Kd.R_alloc | apply Kd.R_drewN | apply Kd.R_drew)); exact Kd.R_mono HO_205000.out (fun _ hk => ⟨hk.1, hk.2.1⟩)⟩, ⟨q3_1⟩, ⟨q3_2⟩, ⟨q3_3⟩, ⟨q3_5⟩, ⟨q3_6⟩, ⟨q3_0⟩⟩
        ·replace c99 := Bool.eq_false_iff.mpr c99
         subst c99
         have H1 : (laws_FnExactDo.j1 kj15 t188 t189 true l0_0 a1_0 a1_1 a1_2 a1_3 t185 t199) = some r := by rw [if_neg (show ¬ (false = true) by decide)] at H; exact H
         clear H
         have H := H1
         clear H1
         have H' := Aside0.mk H
         clear H
         have hnb121 := NB204_175.out
         have hnc121 := NB175_204.out
         have hnb122 := NB204_176.out
         have hnc122 := NB176_204.out
         have hnb123 := NB204_190.out
         have hnc123 := NB190_204.out
         have hnb124 := NB204_194.out
         have hnc124 := NB194_204.out
         have hcz125_0 : w96.cell? ⟨gb204, 0, none⟩ = some (.slice Ao46 t199.length co46) := (blk_cell BK204.out 0).trans rfl
         have hfz125_0 := blk_frozen BK204.out 0
         have hnb126 := NB190_175.out
         have hnc126 := NB175_190.out
         have hnb127 := NB190_176.out
         have hnc127 := NB176_190.out
         have hnb128 := NB190_194.out
         have hnc128 := NB194_190.out
         have hcz129_0 : w96.cell? ⟨gb190, 0, none⟩ = some (.slice Ao29 t185.length co29) := (blk_cell BK190.out 0).trans rfl
         have hfz129_0 := blk_frozen BK190.out 0
         go_wp2_with (first | (go_at_call 26; (with_reducible refine (laws_eqMem.calls kj15 _ _ t199 _ _ t185 false _ ?side1 ?side2 ?side3 ?side4 A98.out).mono ?_); (case side1 => exact q3_19); (case side2 => exact (Kd.R_reads' HO_205000.out).2.1); (case side3 => repeat (first | exact (Kd.R_reads' HO_191000.out).2.2 | (with_reducible refine Kd.C_alloc ?_ _) | (with_reducible refine Kd.C_drewN ?_ _) | (with_reducible refine Kd.C_drew ?_))); (case side4 => exact (Kd.R_reads' HO_191000.out).2.1); rintro e w130 ⟨rfl, hb⟩; have n0_ := Aside0.mk (Kd.R_below q3_10 hb); have n1_ := Aside0.mk (Kd.R_below q3_11 hb); have n2_ := Aside0.mk (Kd.R_below q3_12 hb); have n3_ := Aside0.mk (Kd.R_below (by (with_reducible repeat (first | apply Kd.R_alloc | apply Kd.R_drewN | apply Kd.R_drew)); exact HO208.out) hb); have n4_ := Aside0.mk (blk_below (g := gb175) (o := .cells #[.slice A0_0 l0_0.length c0_0] 31 (0, 0)) q3_1 hb); have n5_ := Aside0.mk (blk_below (g := gb176) (o := .cells #[.int .i64 a1_0, .int .i64 a1_1, .int .i64 a1_2, .int .i64 a1_3] 33 (0, 0)) q3_2 hb); have n6_ := Aside0.mk (blk_below (g := gb190) (o := .cells #[.slice Ao29 t185.length co29] 36 (0, 0)) q3_3 hb); have n7_ := Aside0.mk (blk_below (g := gb194) (o := .cells #[.slice Ao35 t191.length co35] 36 (0, 0)) q3_5 hb); have n8_ := Aside0.mk (blk_below (g := gb204) (o := .cells #[.slice Ao46 t199.length co46] 36 (0, 0)) q3_6 hb); have n9_ := Aside0.mk (below_step q3_0 hb); clear HO_191000; clear HO_195000; clear HO_205000; clear HO208; clear BK175; clear BK176; clear BK190; clear BK194; clear BK204; clear HB; have HO_191000 := n0_; have HO_195000 := n1_; have HO_205000 := n2_; have HO208 := n3_; have BK175 := n4_; have BK176 := n5_; have BK190 := n6_; have BK194 := n7_; have BK204 := n8_; have HB := n9_; clear n0_ n1_ n2_ n3_ n4_ n5_ n6_ n7_ n8_ n9_; (try clear hb); (try clear hb2); (try clear hk); (try clear hi)))
         go_meet
         case rel => exact ⟨_, (true), (by first | rfl | (simp; done) | (simp [*]; done)), H', ⟨by have := HJ15.out; first | omega | exact Nat.le_refl _⟩, ⟨by (with_reducible repeat (first | apply Kd.R_alloc | apply Kd.R_drewN | apply Kd.R_drew)); exact Kd.R_mono HO_191000.out (fun _ hk => ⟨hk.1, hk.2.1⟩)⟩, ⟨by (with_reducible repeat (first | apply Kd.R_alloc | apply Kd.R_drewN | apply Kd.R_drew)); exact Kd.R_mono HO_195000.out (fun _ hk => ⟨hk.1.1, hk.1.2⟩)⟩, ⟨by (with_reducible repeat (first | apply Kd.R_alloc | apply Kd.R_drewN | apply Kd.R_drew)); exact Kd.R_mono HO_205000.out (fun _ hk => ⟨hk.1, hk.2.1⟩)⟩, ⟨q3_1⟩, ⟨q3_2⟩, ⟨q3_3⟩, ⟨q3_5⟩, ⟨q3_6⟩, ⟨q3_0⟩⟩
      case rest =>
       clear HC86
       (try clear c1); (try clear c2); (try clear p2); (try clear c4); (try clear c5); (try clear c6); (try clear c7); (try clear c8); (try clear c9); (try clear c10); (try clear c11); (try clear c12); (try clear c23); (try clear c24); (try clear c26); (try clear c28); (try clear c29); (try clear c49); (try clear c50); (try clear c50b0); (try clear c50b1); (try clear c51); (try clear c52); (try clear c53); (try clear c54); (try clear c56); (try clear c57); (try clear c58); (try clear c61); (try clear c62); (try clear c63); (try clear c64); (try clear c66); (try clear c67); (try clear c68); (try clear c71); (try clear c72); (try clear c73); (try clear c74); (try clear c76); (try clear c77); (try clear c78); (try clear c81); (try clear c84); (try clear c91); (try clear c92); (try clear c93); (try clear c94); (try clear c97); (try clear c97b0); (try clear c99); (try clear c100); (try clear c100b0); (try clear c100b1); (try clear c101); (try clear c102); (try clear c103); (try clear c104); (try clear c106); (try clear c107); (try clear c108); (try clear c111); (try clear c112); (try clear c113); (try clear c114); (try clear c116); (try clear c117); (try clear c118); (try clear c121); (try clear c122); (try clear c123); (try clear c124); (try clear c126); (try clear c127); (try clear c128); (try clear hcz105_0); (try clear hcz109_0); (try clear hcz115_0); (try clear hcz119_0); (try clear hcz125_0); (try clear hcz129_0); (try clear hcz55_0); (try clear hcz59_0); (try clear hcz65_0); (try clear hcz69_0); (try clear hcz75_0); (try clear hcz79_0); (try clear hcz95_0); (try clear hfz105_0); (try clear hfz109_0); (try clear hfz115_0); (try clear hfz119_0); (try clear hfz125_0); (try clear hfz129_0); (try clear hfz55_0); (try clear hfz59_0); (try clear hfz65_0); (try clear hfz69_0); (try clear hfz75_0); (try clear hfz79_0); (try clear hfz95_0); (try clear p2)
       obtain ⟨kq, x82_85, rfl, HA, HJ85, HO_191000, HO_195000, HO_205000, BK175, BK176, BK190, BK194, BK204, HB⟩ := hcut
       have hl195000_85 := (Kd.R_reads' HO_195000.out).1
       rw [hl195000_85] at HO_195000
       (try simp only [hl195000_85])
       (try simp only [hl195000_85] at BK175)
       (try simp only [hl195000_85] at BK176)
       (try simp only [hl195000_85] at BK190)
       (try simp only [hl195000_85] at BK194)
       (try simp only [hl195000_85] at BK204)
       (try simp only [hl195000_85] at HO_191000)
       (try simp only [hl195000_85] at HO_205000)
       cases kq with
       | zero => exact absurd HA.out (by simp [laws_FnExactDo.j1])
       | succ kj85 =>
        have H := HA.out
        clear HA
        simp only [laws_FnExactDo.j1] at H
        by_cases c131 : x82_85 = true
        ·subst c131
         have H1 : (some false) = some r := by rw [if_pos rfl] at H; exact H
         clear H
         have H := H1
         clear H1
         obtain rfl := Option.some.inj H
         go_wp2
         go_ret
         exact ⟨q3_31, q3_0⟩
        ·replace c131 := Bool.eq_false_iff.mpr c131
         subst c131
         have H1 : ((laws_markMem.f kj85 t199 1).bind fun bt213 => ((laws_heldMem.f kj85 bt213.2 1).bind fun t215 => (if t215 < 0 then (some false) else (if t215 = bt213.1 then ((laws_toMem.f kj85 l0_0).bind fun t216 => ((laws_toAct.f a1_0 a1_1 a1_2 a1_3).bind fun bt219 => ((impl_Do.f t216 bt219.1 bt219.2.1 bt219.2.2.1 bt219.2.2.2).bind fun bt223 => ((laws_eqMem.f kj85 bt223.1 t185).bind fun t229 => (if t229 = true then (if bt223.2.1 = t188 then (laws_FnExactDo.j2 kj85 bt213.1 (bt223.2.2 != t189) bt213.2) else (laws_FnExactDo.j2 kj85 bt213.1 true bt213.2)) else (laws_FnExactDo.j2 kj85 bt213.1 true bt213.2)))))) else (some false))))) = some r := by rw [if_neg (show ¬ (false = true) by decide)] at H; exact H
         clear H
         have H := H1
         clear H1
         replace H := Option.bind_eq_some_iff.mp H
         obtain ⟨⟨t213, t214⟩, A1320, H⟩ := H
         replace H : ((laws_heldMem.f kj85 t214 1).bind fun t215 => (if t215 < 0 then (some false) else (if t215 = t213 then ((laws_toMem.f kj85 l0_0).bind fun t216 => ((laws_toAct.f a1_0 a1_1 a1_2 a1_3).bind fun bt219 => ((impl_Do.f t216 bt219.1 bt219.2.1 bt219.2.2.1 bt219.2.2.2).bind fun bt223 => ((laws_eqMem.f kj85 bt223.1 t185).bind fun t229 => (if t229 = true then (if bt223.2.1 = t188 then (laws_FnExactDo.j2 kj85 t213 (bt223.2.2 != t189) t214) else (laws_FnExactDo.j2 kj85 t213 true t214)) else (laws_FnExactDo.j2 kj85 t213 true t214)))))) else (some false)))) = some r := H
         have A132 := Aside0.mk A1320
         clear A1320
         replace H := Option.bind_eq_some_iff.mp H
         obtain ⟨t215, A1330, H⟩ := H
         replace H : (if t215 < 0 then (some false) else (if t215 = t213 then ((laws_toMem.f kj85 l0_0).bind fun t216 => ((laws_toAct.f a1_0 a1_1 a1_2 a1_3).bind fun bt219 => ((impl_Do.f t216 bt219.1 bt219.2.1 bt219.2.2.1 bt219.2.2.2).bind fun bt223 => ((laws_eqMem.f kj85 bt223.1 t185).bind fun t229 => (if t229 = true then (if bt223.2.1 = t188 then (laws_FnExactDo.j2 kj85 t213 (bt223.2.2 != t189) t214) else (laws_FnExactDo.j2 kj85 t213 true t214)) else (laws_FnExactDo.j2 kj85 t213 true t214)))))) else (some false))) = some r := H
         have A133 := Aside0.mk A1330
         clear A1330
         by_cases c134 : t215 < 0
         ·rw [if_pos c134] at H
          have c134b0 : decide (t215 < 0) = true := decide_eq_true c134
          clear c134
          obtain rfl := Option.some.inj H
          have hnb135 := NB204_175.out
          have hnc135 := NB175_204.out
          have hnb136 := NB204_176.out
          have hnc136 := NB176_204.out
          have hnb137 := NB204_190.out
          have hnc137 := NB190_204.out
          have hnb138 := NB204_194.out
          have hnc138 := NB194_204.out
          have hcz139_0 : wc.cell? ⟨gb204, 0, none⟩ = some (.slice Ao46 t199.length co46) := (blk_cell BK204.out 0).trans rfl
          have hfz139_0 := blk_frozen BK204.out 0
          go_wp2_with (first | ((with_reducible refine gate_callee (f := 29) rfl ?_); refine goesL_ (some 85) rfl rfl Try.func29 q3_30 rfl #[.agg #[.slice Ao46 t199.length co46], .int .i64 1] rfl q3_7 ?_; (with_reducible refine (laws_markMem.calls kj85 (fun k_ => some k_ = (.slice Ao46 t199.length co46 : Value).ownBlock) (.slice Ao46 t199.length co46) t199 1 t213 t214 w _ ?side1 ?side2 A132.out).mono ?_); (case side1 => exact q3_0); (case side2 => exact Kd.R_tight rfl HO_205000.out); rintro e w140 ⟨rfl, hy0, hb, hkp⟩; refine ⟨_, rfl, ?_⟩; have n0_ := Aside0.mk (Kd.R_mono (ok' := fun k_ => some k_ ≠ (.slice Ao35 t211.length co35 : Value).ownBlock ∧ some k_ ≠ (.slice Ao46 t199.length co46 : Value).ownBlock) (Kd.R_keptB (HO_191000.out) hkp (fun k_ hk_ hs_ => (hk_.2) hs_)) (fun k_ hk_ => ⟨hk_.1.1, hk_.1.2⟩)); have n1_ := Aside0.mk (Kd.R_mono (ok' := fun k_ => some k_ ≠ (.slice Ao29 t185.length co29 : Value).ownBlock ∧ some k_ ≠ (.slice Ao46 t199.length co46 : Value).ownBlock) (Kd.R_keptB (HO_195000.out) hkp (fun k_ hk_ hs_ => (hk_.2) hs_)) (fun k_ hk_ => ⟨hk_.1.1, hk_.1.2⟩)); have n2_ := Aside0.mk (Kd.R_reok rfl hy0 (fun k_ e_ => HO_205000.out.1 k_ e_)); have n3_ := Aside0.mk (blk_kept q3_1 hkp (fun hs_ => (fun e_ => (Kd.R_ne HO_205000.out BK175.out (by decide)) e_) hs_)); have n4_ := Aside0.mk (blk_kept q3_2 hkp (fun hs_ => (fun e_ => (Kd.R_ne HO_205000.out BK176.out (by decide)) e_) hs_)); have n5_ := Aside0.mk (blk_kept q3_3 hkp (fun hs_ => (fun e_ => (Kd.R_ne HO_205000.out BK190.out (by decide)) e_) hs_)); have n6_ := Aside0.mk (blk_kept q3_5 hkp (fun hs_ => (fun e_ => (Kd.R_ne HO_205000.out BK194.out (by decide)) e_) hs_)); have n7_ := Aside0.mk (blk_kept q3_6 hkp (fun hs_ => (fun e_ => (Kd.R_ne HO_205000.out BK204.out (by decide)) e_) hs_)); have n8_ := Aside0.mk (hb); clear HO_191000; clear HO_195000; clear HO_205000; clear BK175; clear BK176; clear BK190; clear BK194; clear BK204; clear HB; have HO_191000 := n0_; have HO_195000 := n1_; have HO_205000 := n2_; have BK175 := n3_; have BK176 := n4_; have BK190 := n5_; have BK194 := n6_; have BK204 := n7_; have HB := n8_; clear n0_ n1_ n2_ n3_ n4_ n5_ n6_ n7_ n8_; (try clear hb); (try clear hkp); (try clear hy0); have hcz141_0 : w140.cell? ⟨gb204, 0, none⟩ = some (.slice Ao46 t199.length co46) := (blk_cell BK204.out 0).trans rfl; have hfz141_0 := blk_frozen BK204.out 0) | ((with_reducible refine gate_callee (f := 30) rfl ?_); refine goesL_ (some 88) rfl rfl Try.func30 q3_30 rfl #[.agg #[.slice Ao46 t214.length co46], .int .i64 1] rfl (by (try simp only [List.map_toArray, List.map_cons, List.map_nil]); first | done | (rw [show t214.length = t199.length from (Kd.R_reads' HO_205000.out).1.symm] <;> rfl) | rfl | (simp only [List.length_drop, List.length_take]; rfl)) ?_; (with_reducible refine (laws_heldMem.calls kj85 _ _ t214 1 t215 _ ?side1 ?side2 A133.out).mono ?_); (case side1 => exact q3_19); (case side2 => rw [show t214.length = t199.length from (Kd.R_reads' HO_205000.out).1.symm]; exact (Kd.R_reads' HO_205000.out).2.1); rintro e w142 ⟨rfl, hb⟩; refine ⟨_, rfl, ?_⟩; have n0_ := Aside0.mk (Kd.R_below q3_10 hb); have n1_ := Aside0.mk (Kd.R_below q3_11 hb); have n2_ := Aside0.mk (Kd.R_below q3_12 hb); have n3_ := Aside0.mk (blk_below (g := gb175) (o := .cells #[.slice A0_0 l0_0.length c0_0] 31 (0, 0)) q3_1 hb); have n4_ := Aside0.mk (blk_below (g := gb176) (o := .cells #[.int .i64 a1_0, .int .i64 a1_1, .int .i64 a1_2, .int .i64 a1_3] 33 (0, 0)) q3_2 hb); have n5_ := Aside0.mk (blk_below (g := gb190) (o := .cells #[.slice Ao29 t185.length co29] 36 (0, 0)) q3_3 hb); have n6_ := Aside0.mk (blk_below (g := gb194) (o := .cells #[.slice Ao35 t211.length co35] 36 (0, 0)) q3_5 hb); have n7_ := Aside0.mk (blk_below (g := gb204) (o := .cells #[.slice Ao46 t199.length co46] 36 (0, 0)) q3_6 hb); have n8_ := Aside0.mk (below_step q3_0 hb); clear HO_191000; clear HO_195000; clear HO_205000; clear BK175; clear BK176; clear BK190; clear BK194; clear BK204; clear HB; have HO_191000 := n0_; have HO_195000 := n1_; have HO_205000 := n2_; have BK175 := n3_; have BK176 := n4_; have BK190 := n5_; have BK194 := n6_; have BK204 := n7_; have HB := n8_; clear n0_ n1_ n2_ n3_ n4_ n5_ n6_ n7_ n8_; (try clear hb); (try clear hb2); (try clear hk); (try clear hi)))
          go_ret
          exact ⟨q3_31, q3_0⟩
         ·rw [if_neg c134] at H
          have c134b0 : decide (t215 < 0) = false := decide_eq_false c134
          clear c134
          by_cases c143 : t215 = t213
          ·rw [if_pos c143] at H
           have c143b0 : (t215 == t213) = true := beq_iff_eq.mpr c143
           have c143b1 : (t215 != t213) = false := bne_eq_false_iff_eq.mpr c143
           clear c143
           replace H := Option.bind_eq_some_iff.mp H
           obtain ⟨t216, A1440, H⟩ := H
           replace H : ((laws_toAct.f a1_0 a1_1 a1_2 a1_3).bind fun bt219 => ((impl_Do.f t216 bt219.1 bt219.2.1 bt219.2.2.1 bt219.2.2.2).bind fun bt223 => ((laws_eqMem.f kj85 bt223.1 t185).bind fun t229 => (if t229 = true then (if bt223.2.1 = t188 then (laws_FnExactDo.j2 kj85 t213 (bt223.2.2 != t189) t214) else (laws_FnExactDo.j2 kj85 t213 true t214)) else (laws_FnExactDo.j2 kj85 t213 true t214))))) = some r := H
           have A144 := Aside0.mk A1440
           clear A1440
           replace H := Option.bind_eq_some_iff.mp H
           obtain ⟨⟨t219, t220, t221, t222⟩, A1450, H⟩ := H
           replace H : ((impl_Do.f t216 t219 t220 t221 t222).bind fun bt223 => ((laws_eqMem.f kj85 bt223.1 t185).bind fun t229 => (if t229 = true then (if bt223.2.1 = t188 then (laws_FnExactDo.j2 kj85 t213 (bt223.2.2 != t189) t214) else (laws_FnExactDo.j2 kj85 t213 true t214)) else (laws_FnExactDo.j2 kj85 t213 true t214)))) = some r := H
           have A145 := Aside0.mk A1450
           clear A1450
           replace H := Option.bind_eq_some_iff.mp H
           obtain ⟨⟨t223, t226, t227⟩, A1460, H⟩ := H
           replace H : ((laws_eqMem.f kj85 t223 t185).bind fun t229 => (if t229 = true then (if t226 = t188 then (laws_FnExactDo.j2 kj85 t213 (t227 != t189) t214) else (laws_FnExactDo.j2 kj85 t213 true t214)) else (laws_FnExactDo.j2 kj85 t213 true t214))) = some r := H
           have A146 := Aside0.mk A1460
           clear A1460
           have HC147 := Aside0.mk H
           clear H
           have hnb148 := NB204_175.out
           have hnc148 := NB175_204.out
           have hnb149 := NB204_176.out
           have hnc149 := NB176_204.out
           have hnb150 := NB204_190.out
           have hnc150 := NB190_204.out
           have hnb151 := NB204_194.out
           have hnc151 := NB194_204.out
           have hcz152_0 : wc.cell? ⟨gb204, 0, none⟩ = some (.slice Ao46 t199.length co46) := (blk_cell BK204.out 0).trans rfl
           have hfz152_0 := blk_frozen BK204.out 0
           try go_wp2_with (first | ((with_reducible refine gate_callee (f := 29) rfl ?_); refine goesL_ (some 85) rfl rfl Try.func29 q3_30 rfl #[.agg #[.slice Ao46 t199.length co46], .int .i64 1] rfl q3_7 ?_; (with_reducible refine (laws_markMem.calls kj85 (fun k_ => some k_ = (.slice Ao46 t199.length co46 : Value).ownBlock) (.slice Ao46 t199.length co46) t199 1 t213 t214 w _ ?side1 ?side2 A132.out).mono ?_); (case side1 => exact q3_0); (case side2 => exact Kd.R_tight rfl HO_205000.out); rintro e w153 ⟨rfl, hy0, hb, hkp⟩; refine ⟨_, rfl, ?_⟩; have n0_ := Aside0.mk (Kd.R_mono (ok' := fun k_ => some k_ ≠ (.slice Ao35 t211.length co35 : Value).ownBlock ∧ some k_ ≠ (.slice Ao46 t199.length co46 : Value).ownBlock) (Kd.R_keptB (HO_191000.out) hkp (fun k_ hk_ hs_ => (hk_.2) hs_)) (fun k_ hk_ => ⟨hk_.1.1, hk_.1.2⟩)); have n1_ := Aside0.mk (Kd.R_mono (ok' := fun k_ => some k_ ≠ (.slice Ao29 t185.length co29 : Value).ownBlock ∧ some k_ ≠ (.slice Ao46 t199.length co46 : Value).ownBlock) (Kd.R_keptB (HO_195000.out) hkp (fun k_ hk_ hs_ => (hk_.2) hs_)) (fun k_ hk_ => ⟨hk_.1.1, hk_.1.2⟩)); have n2_ := Aside0.mk (Kd.R_reok rfl hy0 (fun k_ e_ => HO_205000.out.1 k_ e_)); have n3_ := Aside0.mk (blk_kept q3_1 hkp (fun hs_ => (fun e_ => (Kd.R_ne HO_205000.out BK175.out (by decide)) e_) hs_)); have n4_ := Aside0.mk (blk_kept q3_2 hkp (fun hs_ => (fun e_ => (Kd.R_ne HO_205000.out BK176.out (by decide)) e_) hs_)); have n5_ := Aside0.mk (blk_kept q3_3 hkp (fun hs_ => (fun e_ => (Kd.R_ne HO_205000.out BK190.out (by decide)) e_) hs_)); have n6_ := Aside0.mk (blk_kept q3_5 hkp (fun hs_ => (fun e_ => (Kd.R_ne HO_205000.out BK194.out (by decide)) e_) hs_)); have n7_ := Aside0.mk (blk_kept q3_6 hkp (fun hs_ => (fun e_ => (Kd.R_ne HO_205000.out BK204.out (by decide)) e_) hs_)); have n8_ := Aside0.mk (hb); clear HO_191000; clear HO_195000; clear HO_205000; clear BK175; clear BK176; clear BK190; clear BK194; clear BK204; clear HB; have HO_191000 := n0_; have HO_195000 := n1_; have HO_205000 := n2_; have BK175 := n3_; have BK176 := n4_; have BK190 := n5_; have BK194 := n6_; have BK204 := n7_; have HB := n8_; clear n0_ n1_ n2_ n3_ n4_ n5_ n6_ n7_ n8_; (try clear hb); (try clear hkp); (try clear hy0); have hcz154_0 : w153.cell? ⟨gb204, 0, none⟩ = some (.slice Ao46 t199.length co46) := (blk_cell BK204.out 0).trans rfl; have hfz154_0 := blk_frozen BK204.out 0) | ((with_reducible refine gate_callee (f := 30) rfl ?_); refine goesL_ (some 88) rfl rfl Try.func30 q3_30 rfl #[.agg #[.slice Ao46 t214.length co46], .int .i64 1] rfl (by (try simp only [List.map_toArray, List.map_cons, List.map_nil]); first | done | (rw [show t214.length = t199.length from (Kd.R_reads' HO_205000.out).1.symm] <;> rfl) | rfl | (simp only [List.length_drop, List.length_take]; rfl)) ?_; (with_reducible refine (laws_heldMem.calls kj85 _ _ t214 1 t215 _ ?side1 ?side2 A133.out).mono ?_); (case side1 => exact q3_19); (case side2 => rw [show t214.length = t199.length from (Kd.R_reads' HO_205000.out).1.symm]; exact (Kd.R_reads' HO_205000.out).2.1); rintro e w155 ⟨rfl, hb⟩; refine ⟨_, rfl, ?_⟩; have n0_ := Aside0.mk (Kd.R_below q3_10 hb); have n1_ := Aside0.mk (Kd.R_below q3_11 hb); have n2_ := Aside0.mk (Kd.R_below q3_12 hb); have n3_ := Aside0.mk (blk_below (g := gb175) (o := .cells #[.slice A0_0 l0_0.length c0_0] 31 (0, 0)) q3_1 hb); have n4_ := Aside0.mk (blk_below (g := gb176) (o := .cells #[.int .i64 a1_0, .int .i64 a1_1, .int .i64 a1_2, .int .i64 a1_3] 33 (0, 0)) q3_2 hb); have n5_ := Aside0.mk (blk_below (g := gb190) (o := .cells #[.slice Ao29 t185.length co29] 36 (0, 0)) q3_3 hb); have n6_ := Aside0.mk (blk_below (g := gb194) (o := .cells #[.slice Ao35 t211.length co35] 36 (0, 0)) q3_5 hb); have n7_ := Aside0.mk (blk_below (g := gb204) (o := .cells #[.slice Ao46 t199.length co46] 36 (0, 0)) q3_6 hb); have n8_ := Aside0.mk (below_step q3_0 hb); clear HO_191000; clear HO_195000; clear HO_205000; clear BK175; clear BK176; clear BK190; clear BK194; clear BK204; clear HB; have HO_191000 := n0_; have HO_195000 := n1_; have HO_205000 := n2_; have BK175 := n3_; have BK176 := n4_; have BK190 := n5_; have BK194 := n6_; have BK204 := n7_; have HB := n8_; clear n0_ n1_ n2_ n3_ n4_ n5_ n6_ n7_ n8_; (try clear hb); (try clear hb2); (try clear hk); (try clear hi)))
           have n0_ := Aside0.mk (Kd.R_drew HO_191000.out)
           have n1_ := Aside0.mk (Kd.R_drew HO_195000.out)
           have n2_ := Aside0.mk (Kd.R_drew HO_205000.out)
           have n3_ := Aside0.mk (blk_drew BK175.out)
           have n4_ := Aside0.mk (blk_drew BK176.out)
           have n5_ := Aside0.mk (blk_drew BK190.out)
           have n6_ := Aside0.mk (blk_drew BK194.out)
           have n7_ := Aside0.mk (blk_drew BK204.out)
           have n8_ := Aside0.mk (below_drew1 HB.out)
           clear HO_191000
           clear HO_195000
           clear HO_205000
           clear BK175
           clear BK176
           clear BK190
           clear BK194
           clear BK204
           clear HB
           have HO_191000 := n0_
           have HO_195000 := n1_
           have HO_205000 := n2_
           have BK175 := n3_
           have BK176 := n4_
           have BK190 := n5_
           have BK194 := n6_
           have BK204 := n7_
           have HB := n8_
           clear n0_ n1_ n2_ n3_ n4_ n5_ n6_ n7_ n8_
           refine start_ (n := 13) (S := fun w' => w'.cell? ⟨gb175, 0, none⟩ = some (.slice A0_0 l0_0.length c0_0) ∧ w'.cell? ⟨gb176, 0, none⟩ = some (.int .i64 a1_0) ∧ w'.cell? ⟨gb176, 1, none⟩ = some (.int .i64 a1_1) ∧ w'.cell? ⟨gb176, 2, none⟩ = some (.int .i64 a1_2) ∧ w'.cell? ⟨gb176, 3, none⟩ = some (.int .i64 a1_3)) (ds := []) #[F,F,F,F,F,F,F,F,F,F,F,F,F] q3_30 rfl rfl ⟨(blk_cell BK175.out 0).trans rfl, (blk_cell BK176.out 0).trans rfl, (blk_cell BK176.out 1).trans rfl, (blk_cell BK176.out 2).trans rfl, (blk_cell BK176.out 3).trans rfl⟩ (fun hHeld => ?_); refine with_tabW laws_FnExactDo.tab24 laws_FnExactDo.bits24 (fun HT_ HW_ => ?_)
           generalize w155.drew = w156 at HO_191000 HO_195000 HO_205000 BK175 BK176 BK190 BK194 BK204 HB hHeld ⊢
           refine take_ (i := 0) (N := some 95) (v := ?_) (a' := ?_) #[T,F,F,F,F,F,F,F,F,F,F,F,F] rfl rfl (take_ofW HT_.out HW_.out q3_30) (fun _ _ _ h => h) (Or.inl ⟨by rfl, ?_⟩) hHeld ?_ ?_
           rotate_left
           ·rintro w' ⟨s0, s1, s2, s3, s4⟩
            go_simp
            with_reducible rfl
           rotate_left
           ·simp only [Act.put, List.setIfInBounds_toArray, List.set_cons_zero, List.set_cons_succ, i64_w, i32_w]
            rfl
           refine take_ (i := 2) (N := some 97) (v := ?_) (a' := ?_) #[T,F,T,F,F,F,F,F,F,F,F,F,F] rfl rfl (take_ofW HT_.out HW_.out q3_30) (fun _ _ _ h => h) (Or.inl ⟨by rfl, ?_⟩) hHeld ?_ ?_
           rotate_left
           ·rintro w' ⟨s0, s1, s2, s3, s4⟩
            go_simp
            with_reducible rfl
           rotate_left
           ·simp only [Act.put, List.setIfInBounds_toArray, List.set_cons_zero, List.set_cons_succ, i64_w, i32_w]
            rfl
           refine join_ (σ := Value × Value × Nat) 3 #[T,T,T,T,T,T,T,T,T,T,F,F,F] (fun s_ => [(96, .agg #[s_.1]), (98, .agg #[.int .i64 t219, .int .i64 t220, .int .i64 t221, .int .i64 t222]), (99, .tuple #[.agg #[s_.2.1], .int .i64 t226, .bool t227]), (16, .pointer (some ⟨s_.2.2, 0, none⟩)), (94, .tuple #[.agg #[s_.2.1], .int .i64 t226, .bool t227]), (100, .agg #[s_.2.1]), (101, .int .i64 t226), (102, .bool t227)]) (fun s_ w' => (w'.cell? ⟨gb175, 0, none⟩ = some (.slice A0_0 l0_0.length c0_0) ∧ w'.cell? ⟨gb176, 0, none⟩ = some (.int .i64 a1_0) ∧ w'.cell? ⟨gb176, 1, none⟩ = some (.int .i64 a1_1) ∧ w'.cell? ⟨gb176, 2, none⟩ = some (.int .i64 a1_2) ∧ w'.cell? ⟨gb176, 3, none⟩ = some (.int .i64 a1_3)) ∧ (Kd.R (Kd.int .i64) 3 w' w.heap.size (fun k_ => some k_ ≠ (s_.2.1 : Value).ownBlock ∧ some k_ ≠ (.slice Ao29 t185.length co29 : Value).ownBlock ∧ some k_ ≠ (.slice Ao35 t211.length co35 : Value).ownBlock ∧ some k_ ≠ (.slice Ao46 t199.length co46 : Value).ownBlock) s_.1 t216) ∧ (Kd.R (Kd.int .i64) 3 w' w.heap.size (fun k_ => some k_ ≠ (s_.1 : Value).ownBlock ∧ some k_ ≠ (.slice Ao29 t185.length co29 : Value).ownBlock ∧ some k_ ≠ (.slice Ao35 t211.length co35 : Value).ownBlock ∧ some k_ ≠ (.slice Ao46 t199.length co46 : Value).ownBlock) s_.2.1 t223) ∧ (Kd.R (Kd.int .i64) 3 w' w.heap.size (fun k_ => some k_ ≠ (s_.1 : Value).ownBlock ∧ some k_ ≠ (s_.2.1 : Value).ownBlock ∧ some k_ ≠ (.slice Ao35 t211.length co35 : Value).ownBlock ∧ some k_ ≠ (.slice Ao46 t199.length co46 : Value).ownBlock) (.slice Ao29 t185.length co29) t185) ∧ (Kd.R (Kd.int .i64) 3 w' w.heap.size (fun k_ => some k_ ≠ (s_.1 : Value).ownBlock ∧ some k_ ≠ (s_.2.1 : Value).ownBlock ∧ some k_ ≠ (.slice Ao29 t185.length co29 : Value).ownBlock ∧ some k_ ≠ (.slice Ao46 t199.length co46 : Value).ownBlock) (.slice Ao35 t211.length co35) t211) ∧ (Kd.R (Kd.int .i64) 3 w' w.heap.size (fun k_ => some k_ ≠ (s_.1 : Value).ownBlock ∧ some k_ ≠ (s_.2.1 : Value).ownBlock ∧ some k_ ≠ (.slice Ao29 t185.length co29 : Value).ownBlock ∧ some k_ ≠ (.slice Ao35 t211.length co35 : Value).ownBlock) (.slice Ao46 t199.length co46) t214) ∧ (w'.heap[gb175]? = some (.cells #[.slice A0_0 l0_0.length c0_0] 31 (0, 0))) ∧ (w'.heap[gb176]? = some (.cells #[.int .i64 a1_0, .int .i64 a1_1, .int .i64 a1_2, .int .i64 a1_3] 33 (0, 0))) ∧ (w'.heap[gb190]? = some (.cells #[.slice Ao29 t185.length co29] 36 (0, 0))) ∧ (w'.heap[gb194]? = some (.cells #[.slice Ao35 t211.length co35] 36 (0, 0))) ∧ (w'.heap[gb204]? = some (.cells #[.slice Ao46 t199.length co46] 36 (0, 0))) ∧ (w'.heap[s_.2.2]? = some (.cells #[.slice none 0 0] 36 (0, 0))) ∧ (w.heap.size ≤ s_.2.2) ∧ (w.heap.size ≤ s_.2.2) ∧ (gb175 ≠ s_.2.2) ∧ (s_.2.2 ≠ gb175) ∧ (gb176 ≠ s_.2.2) ∧ (s_.2.2 ≠ gb176) ∧ (gb190 ≠ s_.2.2) ∧ (s_.2.2 ≠ gb190) ∧ (gb194 ≠ s_.2.2) ∧ (s_.2.2 ≠ gb194) ∧ (gb204 ≠ s_.2.2) ∧ (s_.2.2 ≠ gb204) ∧ (Below w.heap.size w w')) ?_ ?_
           rotate_left
           ·intro hCont
            refine two_ (i := 1) (j := 9) (Ni := some 96) (Nj := some 16) #[T,T,T,F,F,F,F,F,F,F,F,F,F] #[T,F,T,F,F,F,F,F,F,T,F,F,F] rfl rfl rfl rfl (two_of HT_.out q3_30) (by decide) (by decide) (fun K hK => ?_) (fun K hK => ?_)
            ·skip
             refine goes_ Try.func23 q3_30 rfl #[.agg #[.slice A0_0 l0_0.length c0_0]] (by rfl) rfl rfl q3_7 ?_
             with_reducible refine (laws_toMem.calls kj85 _ _ l0_0 t216 _ ?side1 ?side2 A144.out).mono ?_
             (case side1 => exact q3_27)
             (case side2 => exact HC0_0.out)
             rintro e w157 ⟨v217, rfl, ho0, hb⟩
             refine ⟨_, rfl, ?_⟩
             have n0_ := Aside0.mk (Kd.R_elder' q3_10 (Kd.R_base ho0) hb)
             have n1_ := Aside0.mk (Kd.R_elder' q3_11 (Kd.R_base ho0) hb)
             have n2_ := Aside0.mk (Kd.R_elder' q3_12 (Kd.R_base ho0) hb)
             have n3_ := Aside0.mk (Kd.R_lower (Kd.R_new' (Kd.R_new' (Kd.R_new' ho0 (Kd.R_lt q3_10)) (Kd.R_lt q3_11)) (Kd.R_lt q3_12)) (below_size q3_0))
             have n4_ := Aside0.mk (blk_below (g := gb175) (o := .cells #[.slice A0_0 l0_0.length c0_0] 31 (0, 0)) q3_1 hb)
             have n5_ := Aside0.mk (blk_below (g := gb176) (o := .cells #[.int .i64 a1_0, .int .i64 a1_1, .int .i64 a1_2, .int .i64 a1_3] 33 (0, 0)) q3_2 hb)
             have n6_ := Aside0.mk (blk_below (g := gb190) (o := .cells #[.slice Ao29 t185.length co29] 36 (0, 0)) q3_3 hb)
             have n7_ := Aside0.mk (blk_below (g := gb194) (o := .cells #[.slice Ao35 t211.length co35] 36 (0, 0)) q3_5 hb)
             have n8_ := Aside0.mk (blk_below (g := gb204) (o := .cells #[.slice Ao46 t199.length co46] 36 (0, 0)) q3_6 hb)
             have n9_ := Aside0.mk (below_step q3_0 hb)
             clear HO_191000
             clear HO_195000
             clear HO_205000
             clear BK175
             clear BK176
             clear BK190
             clear BK194
             clear BK204
             clear HB
             have HO_191000 := n0_
             have HO_195000 := n1_
             have HO_205000 := n2_
             have HO218 := n3_
             have BK175 := n4_
             have BK176 := n5_
             have BK190 := n6_
             have BK194 := n7_
             have BK204 := n8_
             have HB := n9_
             clear n0_ n1_ n2_ n3_ n4_ n5_ n6_ n7_ n8_ n9_
             (try clear hb)
             (try clear hb2)
             (try clear hk)
             (try clear hi)
             (try clear ho0)
             refine hK.out _ _ ⟨(blk_cell BK175.out 0).trans rfl, (blk_cell BK176.out 0).trans rfl, (blk_cell BK176.out 1).trans rfl, (blk_cell BK176.out 2).trans rfl, (blk_cell BK176.out 3).trans rfl⟩ (fun hHeld => ?_)
             clear hK K
             refine norm_ (a' := ?_) ?_ ?_
             rotate_left
             ·show Act.put _ (some 96) _ = _
              simp only [Act.put, List.setIfInBounds_toArray, List.set_cons_zero, List.set_cons_succ, i64_w, i32_w]
              rfl
             refine two_ (i := 3) (j := 9) (Ni := some 98) (Nj := some 16) #[T,T,T,T,F,F,F,F,F,F,F,F,F] #[T,T,T,F,F,F,F,F,F,T,F,F,F] rfl rfl rfl rfl (two_of HT_.out q3_30) (by decide) (by decide) (fun K hK => ?_) (fun K hK => ?_)
             ·skip
              refine goes_ Try.func24 q3_30 rfl #[.agg #[.int .i64 a1_0, .int .i64 a1_1, .int .i64 a1_2, .int .i64 a1_3]] (by rfl) rfl rfl q3_7 ?_
              with_reducible refine (laws_toAct.calls a1_0 a1_1 a1_2 a1_3 t219 t220 t221 t222 _ A145.out).mono ?_
              rintro e w158 ⟨rfl, hb⟩
              refine ⟨_, rfl, ?_⟩
              have n0_ := Aside0.mk (Kd.R_below q3_10 hb)
              have n1_ := Aside0.mk (Kd.R_below q3_11 hb)
              have n2_ := Aside0.mk (Kd.R_below q3_12 hb)
              have n3_ := Aside0.mk (Kd.R_below q3_21 hb)
              have n4_ := Aside0.mk (blk_below (g := gb175) (o := .cells #[.slice A0_0 l0_0.length c0_0] 31 (0, 0)) q3_1 hb)
              have n5_ := Aside0.mk (blk_below (g := gb176) (o := .cells #[.int .i64 a1_0, .int .i64 a1_1, .int .i64 a1_2, .int .i64 a1_3] 33 (0, 0)) q3_2 hb)
              have n6_ := Aside0.mk (blk_below (g := gb190) (o := .cells #[.slice Ao29 t185.length co29] 36 (0, 0)) q3_3 hb)
              have n7_ := Aside0.mk (blk_below (g := gb194) (o := .cells #[.slice Ao35 t211.length co35] 36 (0, 0)) q3_5 hb)
              have n8_ := Aside0.mk (blk_below (g := gb204) (o := .cells #[.slice Ao46 t199.length co46] 36 (0, 0)) q3_6 hb)
              have n9_ := Aside0.mk (below_step q3_0 hb)
              clear HO_191000
              clear HO_195000
              clear HO_205000
              clear HO218
              clear BK175
              clear BK176
              clear BK190
              clear BK194
              clear BK204
              clear HB
              have HO_191000 := n0_
              have HO_195000 := n1_
              have HO_205000 := n2_
              have HO218 := n3_
              have BK175 := n4_
              have BK176 := n5_
              have BK190 := n6_
              have BK194 := n7_
              have BK204 := n8_
              have HB := n9_
              clear n0_ n1_ n2_ n3_ n4_ n5_ n6_ n7_ n8_ n9_
              (try clear hb)
              (try clear hb2)
              (try clear hk)
              (try clear hi)
              obtain ⟨Ao159, co159, eo159⟩ := Kd.R_slice HO218.out
              (first | subst eo159 | (injection eo159 with f1_ f2_ f3_; have f4_ := f1_.symm; have f5_ := f3_.symm; clear f1_ f2_ f3_; subst f4_; subst f5_))
              refine hK.out _ _ ⟨(blk_cell BK175.out 0).trans rfl, (blk_cell BK176.out 0).trans rfl, (blk_cell BK176.out 1).trans rfl, (blk_cell BK176.out 2).trans rfl, (blk_cell BK176.out 3).trans rfl⟩ (fun hHeld => ?_)
              clear hK K
              refine norm_ (a' := ?_) ?_ ?_
              rotate_left
              ·show Act.put _ (some 98) _ = _
               simp only [Act.put, List.setIfInBounds_toArray, List.set_cons_zero, List.set_cons_succ, i64_w, i32_w]
               rfl
              refine two_ (i := 4) (j := 9) (Ni := some 99) (Nj := some 16) #[T,T,T,T,T,F,F,F,F,F,F,F,F] #[T,T,T,T,F,F,F,F,F,T,F,F,F] rfl rfl rfl rfl (two_of HT_.out q3_30) (by decide) (by decide) (fun K hK => ?_) (fun K hK => ?_)
              ·skip
               refine goes_ Try.func28 q3_30 rfl #[.agg #[.slice Ao159 t216.length co159], .agg #[.int .i64 t219, .int .i64 t220, .int .i64 t221, .int .i64 t222]] (by rfl) rfl rfl q3_7 ?_
               with_reducible refine (impl_Do.calls _ _ t216 t219 t220 t221 t222 t223 t226 t227 _ ?side1 ?side2 A146.out).mono ?_
               (case side1 => exact q3_53)
               (case side2 => exact (Kd.R_reads' HO218.out).2.1)
               rintro e w160 ⟨v224, rfl, ho0, hb⟩
               refine ⟨_, rfl, ?_⟩
               have n0_ := Aside0.mk (Kd.R_elder' q3_10 (Kd.R_base ho0) hb)
               have n1_ := Aside0.mk (Kd.R_elder' q3_11 (Kd.R_base ho0) hb)
               have n2_ := Aside0.mk (Kd.R_elder' q3_12 (Kd.R_base ho0) hb)
               have n3_ := Aside0.mk (Kd.R_elder' q3_21 (Kd.R_base ho0) hb)
               have n4_ := Aside0.mk (Kd.R_lower (Kd.R_new' (Kd.R_new' (Kd.R_new' (Kd.R_new' ho0 (Kd.R_lt q3_10)) (Kd.R_lt q3_11)) (Kd.R_lt q3_12)) (Kd.R_lt q3_21)) (below_size q3_0))
               have n5_ := Aside0.mk (blk_below (g := gb175) (o := .cells #[.slice A0_0 l0_0.length c0_0] 31 (0, 0)) q3_1 hb)
               have n6_ := Aside0.mk (blk_below (g := gb176) (o := .cells #[.int .i64 a1_0, .int .i64 a1_1, .int .i64 a1_2, .int .i64 a1_3] 33 (0, 0)) q3_2 hb)
               have n7_ := Aside0.mk (blk_below (g := gb190) (o := .cells #[.slice Ao29 t185.length co29] 36 (0, 0)) q3_3 hb)
               have n8_ := Aside0.mk (blk_below (g := gb194) (o := .cells #[.slice Ao35 t211.length co35] 36 (0, 0)) q3_5 hb)
               have n9_ := Aside0.mk (blk_below (g := gb204) (o := .cells #[.slice Ao46 t199.length co46] 36 (0, 0)) q3_6 hb)
               have n10_ := Aside0.mk (below_step q3_0 hb)
               clear HO_191000
               clear HO_195000
               clear HO_205000
               clear HO218
               clear BK175
               clear BK176
               clear BK190
               clear BK194
               clear BK204
               clear HB
               have HO_191000 := n0_
               have HO_195000 := n1_
               have HO_205000 := n2_
               have HO218 := n3_
               have HO225 := n4_
               have BK175 := n5_
               have BK176 := n6_
               have BK190 := n7_
               have BK194 := n8_
               have BK204 := n9_
               have HB := n10_
               clear n0_ n1_ n2_ n3_ n4_ n5_ n6_ n7_ n8_ n9_ n10_
               (try clear hb)
               (try clear hb2)
               (try clear hk)
               (try clear hi)
               (try clear ho0)
               refine hK.out _ _ ⟨(blk_cell BK175.out 0).trans rfl, (blk_cell BK176.out 0).trans rfl, (blk_cell BK176.out 1).trans rfl, (blk_cell BK176.out 2).trans rfl, (blk_cell BK176.out 3).trans rfl⟩ (fun hHeld => ?_)
               clear hK K
               refine norm_ (a' := ?_) ?_ ?_
               rotate_left
               ·show Act.put _ (some 99) _ = _
                simp only [Act.put, List.setIfInBounds_toArray, List.set_cons_zero, List.set_cons_succ, i64_w, i32_w]
                rfl
               refine q3_p 5 94 #[T,T,T,T,T,T,F,F,F,F,F,F,F] ?_
               refine q3_p 6 100 #[T,T,T,T,T,T,T,F,F,F,F,F,F] ?_
               refine q3_p 7 101 #[T,T,T,T,T,T,T,T,F,F,F,F,F] ?_
               refine q3_p 8 102 #[T,T,T,T,T,T,T,T,T,F,F,F,F] ?_
               refine one_ (i := 9) (N := some 16) #[T,T,T,T,T,T,T,T,T,T,F,F,F] rfl rfl (one_of HT_.out q3_30) (by decide) (fun K hK => ?_)
               refine box_step ?hg (N := 16) ?hd (cs := #[.slice none 0 0]) (t := 36) ?hr ?_; (case hd => rfl); (case hg => rfl); (case hr => first | (go_simp; done) | (go_simp; rfl))
               intro gb228 hg w161 hbox hb
               have n0_ := Aside0.mk (Kd.R_below q3_10 hb)
               have n1_ := Aside0.mk (Kd.R_below q3_11 hb)
               have n2_ := Aside0.mk (Kd.R_below q3_12 hb)
               have n3_ := Aside0.mk (Kd.R_below q3_21 hb)
               have n4_ := Aside0.mk (Kd.R_below (by (with_reducible repeat (first | apply Kd.R_alloc | apply Kd.R_drewN | apply Kd.R_drew)); exact HO225.out) hb)
               have n5_ := Aside0.mk (blk_below (g := gb175) (o := .cells #[.slice A0_0 l0_0.length c0_0] 31 (0, 0)) q3_1 hb)
               have n6_ := Aside0.mk (blk_below (g := gb176) (o := .cells #[.int .i64 a1_0, .int .i64 a1_1, .int .i64 a1_2, .int .i64 a1_3] 33 (0, 0)) q3_2 hb)
               have n7_ := Aside0.mk (blk_below (g := gb190) (o := .cells #[.slice Ao29 t185.length co29] 36 (0, 0)) q3_3 hb)
               have n8_ := Aside0.mk (blk_below (g := gb194) (o := .cells #[.slice Ao35 t211.length co35] 36 (0, 0)) q3_5 hb)
               have n9_ := Aside0.mk (blk_below (g := gb204) (o := .cells #[.slice Ao46 t199.length co46] 36 (0, 0)) q3_6 hb)
               have n10_ := Aside0.mk (below_step q3_0 hb)
               have n11_ := Aside0.mk (hbox)
               have n12_ := Aside0.mk ((by rw [hg]; exact (below_size q3_0) : w.heap.size ≤ gb228))
               have n13_ := Aside0.mk ((by rw [hg]; exact (below_size q3_0) : w.heap.size ≤ gb228))
               have n14_ := Aside0.mk ((q3_17 : gb175 ≠ gb228))
               have n15_ := Aside0.mk ((q3_18 : gb228 ≠ gb175))
               have n16_ := Aside0.mk ((q3_15 : gb176 ≠ gb228))
               have n17_ := Aside0.mk ((q3_16 : gb228 ≠ gb176))
               have n18_ := Aside0.mk ((q3_33 : gb190 ≠ gb228))
               have n19_ := Aside0.mk ((q3_34 : gb228 ≠ gb190))
               have n20_ := Aside0.mk ((by rw [hg]; exact Nat.ne_of_lt (blk_lt (g := gb194) (o := .cells #[.slice Ao35 t211.length co35] 36 (0, 0)) q3_5) : gb194 ≠ gb228))
               have n21_ := Aside0.mk ((by rw [hg]; exact Nat.ne_of_gt (blk_lt (g := gb194) (o := .cells #[.slice Ao35 t211.length co35] 36 (0, 0)) q3_5) : gb228 ≠ gb194))
               have n22_ := Aside0.mk ((by rw [hg]; exact Nat.ne_of_lt (blk_lt (g := gb204) (o := .cells #[.slice Ao46 t199.length co46] 36 (0, 0)) q3_6) : gb204 ≠ gb228))
               have n23_ := Aside0.mk ((by rw [hg]; exact Nat.ne_of_gt (blk_lt (g := gb204) (o := .cells #[.slice Ao46 t199.length co46] 36 (0, 0)) q3_6) : gb228 ≠ gb204))
               clear HO_191000
               clear HO_195000
               clear HO_205000
               clear HO218
               clear HO225
               clear BK175
               clear BK176
               clear BK190
               clear BK194
               clear BK204
               clear HB
               have HO_191000 := n0_
               have HO_195000 := n1_
               have HO_205000 := n2_
               have HO218 := n3_
               have HO225 := n4_
               have BK175 := n5_
               have BK176 := n6_
               have BK190 := n7_
               have BK194 := n8_
               have BK204 := n9_
               have HB := n10_
               have BK228 := n11_
               have GW228 := n12_
               have GE228 := n13_
               have NB175_228 := n14_
               have NB228_175 := n15_
               have NB176_228 := n16_
               have NB228_176 := n17_
               have NB190_228 := n18_
               have NB228_190 := n19_
               have NB194_228 := n20_
               have NB228_194 := n21_
               have NB204_228 := n22_
               have NB228_204 := n23_
               clear n0_ n1_ n2_ n3_ n4_ n5_ n6_ n7_ n8_ n9_ n10_ n11_ n12_ n13_ n14_ n15_ n16_ n17_ n18_ n19_ n20_ n21_ n22_ n23_
               clear hb hbox hg
               refine hK.out _ _ ⟨(blk_cell BK175.out 0).trans rfl, (blk_cell BK176.out 0).trans rfl, (blk_cell BK176.out 1).trans rfl, (blk_cell BK176.out 2).trans rfl, (blk_cell BK176.out 3).trans rfl⟩ (fun hHeld => ?_)
               clear hK K
               refine norm_ (a' := ?_) ?_ ?_
               rotate_left
               ·show Act.put _ (some 16) _ = _
                simp only [Act.put, List.setIfInBounds_toArray, List.set_cons_zero, List.set_cons_succ, i64_w, i32_w]
                rfl
               exact norm_ q3_29 (hCont (.slice Ao159 t216.length co159, v224, gb228) _ ⟨hHeld, q3_45, q3_46, q3_40, q3_41, q3_42, q3_1, q3_2, q3_3, q3_5, q3_6, q3_20, GW228.out, GE228.out, NB175_228.out, NB228_175.out, NB176_228.out, NB228_176.out, NB190_228.out, NB228_190.out, NB194_228.out, NB228_194.out, NB204_228.out, NB228_204.out, q3_4⟩)
              ·skip
               refine box_step ?hg (N := 16) ?hd (cs := #[.slice none 0 0]) (t := 36) ?hr ?_; (case hd => rfl); (case hg => rfl); (case hr => first | (go_simp; done) | (go_simp; rfl))
               intro gb228 hg w159 hbox hb
               have n0_ := Aside0.mk (Kd.R_below q3_10 hb)
               have n1_ := Aside0.mk (Kd.R_below q3_11 hb)
               have n2_ := Aside0.mk (Kd.R_below q3_12 hb)
               have n3_ := Aside0.mk (Kd.R_below q3_21 hb)
               have n4_ := Aside0.mk (blk_below (g := gb175) (o := .cells #[.slice A0_0 l0_0.length c0_0] 31 (0, 0)) q3_1 hb)
               have n5_ := Aside0.mk (blk_below (g := gb176) (o := .cells #[.int .i64 a1_0, .int .i64 a1_1, .int .i64 a1_2, .int .i64 a1_3] 33 (0, 0)) q3_2 hb)
               have n6_ := Aside0.mk (blk_below (g := gb190) (o := .cells #[.slice Ao29 t185.length co29] 36 (0, 0)) q3_3 hb)
               have n7_ := Aside0.mk (blk_below (g := gb194) (o := .cells #[.slice Ao35 t211.length co35] 36 (0, 0)) q3_5 hb)
               have n8_ := Aside0.mk (blk_below (g := gb204) (o := .cells #[.slice Ao46 t199.length co46] 36 (0, 0)) q3_6 hb)
               have n9_ := Aside0.mk (below_step q3_0 hb)
               have n10_ := Aside0.mk (hbox)
               have n11_ := Aside0.mk ((by rw [hg]; exact (below_size q3_0) : w.heap.size ≤ gb228))
               have n12_ := Aside0.mk ((by rw [hg]; exact (below_size q3_0) : w.heap.size ≤ gb228))
               have n13_ := Aside0.mk ((q3_17 : gb175 ≠ gb228))
               have n14_ := Aside0.mk ((q3_18 : gb228 ≠ gb175))
               have n15_ := Aside0.mk ((q3_15 : gb176 ≠ gb228))
               have n16_ := Aside0.mk ((q3_16 : gb228 ≠ gb176))
               have n17_ := Aside0.mk ((q3_33 : gb190 ≠ gb228))
               have n18_ := Aside0.mk ((q3_34 : gb228 ≠ gb190))
               have n19_ := Aside0.mk ((by rw [hg]; exact Nat.ne_of_lt (blk_lt (g := gb194) (o := .cells #[.slice Ao35 t211.length co35] 36 (0, 0)) q3_5) : gb194 ≠ gb228))
               have n20_ := Aside0.mk ((by rw [hg]; exact Nat.ne_of_gt (blk_lt (g := gb194) (o := .cells #[.slice Ao35 t211.length co35] 36 (0, 0)) q3_5) : gb228 ≠ gb194))
               have n21_ := Aside0.mk ((by rw [hg]; exact Nat.ne_of_lt (blk_lt (g := gb204) (o := .cells #[.slice Ao46 t199.length co46] 36 (0, 0)) q3_6) : gb204 ≠ gb228))
               have n22_ := Aside0.mk ((by rw [hg]; exact Nat.ne_of_gt (blk_lt (g := gb204) (o := .cells #[.slice Ao46 t199.length co46] 36 (0, 0)) q3_6) : gb228 ≠ gb204))
               clear HO_191000
               clear HO_195000
               clear HO_205000
               clear HO218
               clear BK175
               clear BK176
               clear BK190
               clear BK194
               clear BK204
               clear HB
               have HO_191000 := n0_
               have HO_195000 := n1_
               have HO_205000 := n2_
               have HO218 := n3_
               have BK175 := n4_
               have BK176 := n5_
               have BK190 := n6_
               have BK194 := n7_
               have BK204 := n8_
               have HB := n9_
               have BK228 := n10_
               have GW228 := n11_
               have GE228 := n12_
               have NB175_228 := n13_
               have NB228_175 := n14_
               have NB176_228 := n15_
               have NB228_176 := n16_
               have NB190_228 := n17_
               have NB228_190 := n18_
               have NB194_228 := n19_
               have NB228_194 := n20_
               have NB204_228 := n21_
               have NB228_204 := n22_
               clear n0_ n1_ n2_ n3_ n4_ n5_ n6_ n7_ n8_ n9_ n10_ n11_ n12_ n13_ n14_ n15_ n16_ n17_ n18_ n19_ n20_ n21_ n22_
               clear hb hbox hg
               obtain ⟨Ao160, co160, eo160⟩ := Kd.R_slice HO218.out
               (first | subst eo160 | (injection eo160 with f1_ f2_ f3_; have f4_ := f1_.symm; have f5_ := f3_.symm; clear f1_ f2_ f3_; subst f4_; subst f5_))
               refine hK.out _ _ ⟨(blk_cell BK175.out 0).trans rfl, (blk_cell BK176.out 0).trans rfl, (blk_cell BK176.out 1).trans rfl, (blk_cell BK176.out 2).trans rfl, (blk_cell BK176.out 3).trans rfl⟩ (fun hHeld => ?_)
               clear hK K
               refine norm_ (a' := ?_) ?_ ?_
               rotate_left
               ·show Act.put _ (some 16) _ = _
                simp only [Act.put, List.setIfInBounds_toArray, List.set_cons_zero, List.set_cons_succ, i64_w, i32_w]
                rfl
               refine one_ (i := 4) (N := some 99) #[T,T,T,T,T,F,F,F,F,T,F,F,F] rfl rfl (one_of HT_.out q3_30) (by decide) (fun K hK => ?_)
               refine goes_ Try.func28 q3_30 rfl #[.agg #[.slice Ao160 t216.length co160], .agg #[.int .i64 t219, .int .i64 t220, .int .i64 t221, .int .i64 t222]] (by rfl) rfl rfl q3_7 ?_
               with_reducible refine (impl_Do.calls _ _ t216 t219 t220 t221 t222 t223 t226 t227 _ ?side1 ?side2 A146.out).mono ?_
               (case side1 => exact q3_53)
               (case side2 => exact (Kd.R_reads' HO218.out).2.1)
               rintro e w161 ⟨v224, rfl, ho0, hb⟩
               refine ⟨_, rfl, ?_⟩
               have n0_ := Aside0.mk (Kd.R_elder' q3_10 (Kd.R_base ho0) hb)
               have n1_ := Aside0.mk (Kd.R_elder' q3_11 (Kd.R_base ho0) hb)
               have n2_ := Aside0.mk (Kd.R_elder' q3_12 (Kd.R_base ho0) hb)
               have n3_ := Aside0.mk (Kd.R_elder' q3_21 (Kd.R_base ho0) hb)
               have n4_ := Aside0.mk (Kd.R_lower (Kd.R_new' (Kd.R_new' (Kd.R_new' (Kd.R_new' ho0 (Kd.R_lt q3_10)) (Kd.R_lt q3_11)) (Kd.R_lt q3_12)) (Kd.R_lt q3_21)) (below_size q3_4))
               have n5_ := Aside0.mk (blk_below (g := gb175) (o := .cells #[.slice A0_0 l0_0.length c0_0] 31 (0, 0)) q3_1 hb)
               have n6_ := Aside0.mk (blk_below (g := gb176) (o := .cells #[.int .i64 a1_0, .int .i64 a1_1, .int .i64 a1_2, .int .i64 a1_3] 33 (0, 0)) q3_2 hb)
               have n7_ := Aside0.mk (blk_below (g := gb190) (o := .cells #[.slice Ao29 t185.length co29] 36 (0, 0)) q3_3 hb)
               have n8_ := Aside0.mk (blk_below (g := gb194) (o := .cells #[.slice Ao35 t211.length co35] 36 (0, 0)) q3_5 hb)
               have n9_ := Aside0.mk (blk_below (g := gb204) (o := .cells #[.slice Ao46 t199.length co46] 36 (0, 0)) q3_6 hb)
               have n10_ := Aside0.mk (blk_below (g := gb228) (o := .cells #[.slice none 0 0] 36 (0, 0)) q3_20 hb)
               have n11_ := Aside0.mk (below_step q3_4 hb)
               clear HO_191000
               clear HO_195000
               clear HO_205000
               clear HO218
               clear BK175
               clear BK176
               clear BK190
               clear BK194
               clear BK204
               clear BK228
               clear HB
               have HO_191000 := n0_
               have HO_195000 := n1_
               have HO_205000 := n2_
               have HO218 := n3_
               have HO225 := n4_
               have BK175 := n5_
               have BK176 := n6_
               have BK190 := n7_
               have BK194 := n8_
               have BK204 := n9_
               have BK228 := n10_
               have HB := n11_
               clear n0_ n1_ n2_ n3_ n4_ n5_ n6_ n7_ n8_ n9_ n10_ n11_
               (try clear hb)
               (try clear hb2)
               (try clear hk)
               (try clear hi)
               (try clear ho0)
               refine hK.out _ _ ⟨(blk_cell BK175.out 0).trans rfl, (blk_cell BK176.out 0).trans rfl, (blk_cell BK176.out 1).trans rfl, (blk_cell BK176.out 2).trans rfl, (blk_cell BK176.out 3).trans rfl⟩ (fun hHeld => ?_)
               clear hK K
               refine norm_ (a' := ?_) ?_ ?_
               rotate_left
               ·show Act.put _ (some 99) _ = _
                simp only [Act.put, List.setIfInBounds_toArray, List.set_cons_zero, List.set_cons_succ, i64_w, i32_w]
                rfl
               refine q3_p 5 94 #[T,T,T,T,T,T,F,F,F,T,F,F,F] ?_
               refine q3_p 6 100 #[T,T,T,T,T,T,T,F,F,T,F,F,F] ?_
               refine q3_p 7 101 #[T,T,T,T,T,T,T,T,F,T,F,F,F] ?_
               refine q3_p 8 102 #[T,T,T,T,T,T,T,T,T,T,F,F,F] ?_
               exact norm_ q3_29 (hCont (.slice Ao160 t216.length co160, v224, gb228) _ ⟨hHeld, q3_45, q3_46, q3_40, q3_41, q3_42, q3_1, q3_2, q3_3, q3_5, q3_6, q3_20, GW228.out, GE228.out, NB175_228.out, NB228_175.out, NB176_228.out, NB228_176.out, NB190_228.out, NB228_190.out, NB194_228.out, NB228_194.out, NB204_228.out, NB228_204.out, q3_4⟩)
             ·skip
              refine box_step ?hg (N := 16) ?hd (cs := #[.slice none 0 0]) (t := 36) ?hr ?_; (case hd => rfl); (case hg => rfl); (case hr => first | (go_simp; done) | (go_simp; rfl))
              intro gb228 hg w158 hbox hb
              have n0_ := Aside0.mk (Kd.R_below q3_10 hb)
              have n1_ := Aside0.mk (Kd.R_below q3_11 hb)
              have n2_ := Aside0.mk (Kd.R_below q3_12 hb)
              have n3_ := Aside0.mk (Kd.R_below q3_21 hb)
              have n4_ := Aside0.mk (blk_below (g := gb175) (o := .cells #[.slice A0_0 l0_0.length c0_0] 31 (0, 0)) q3_1 hb)
              have n5_ := Aside0.mk (blk_below (g := gb176) (o := .cells #[.int .i64 a1_0, .int .i64 a1_1, .int .i64 a1_2, .int .i64 a1_3] 33 (0, 0)) q3_2 hb)
              have n6_ := Aside0.mk (blk_below (g := gb190) (o := .cells #[.slice Ao29 t185.length co29] 36 (0, 0)) q3_3 hb)
              have n7_ := Aside0.mk (blk_below (g := gb194) (o := .cells #[.slice Ao35 t211.length co35] 36 (0, 0)) q3_5 hb)
              have n8_ := Aside0.mk (blk_below (g := gb204) (o := .cells #[.slice Ao46 t199.length co46] 36 (0, 0)) q3_6 hb)
              have n9_ := Aside0.mk (below_step q3_0 hb)
              have n10_ := Aside0.mk (hbox)
              have n11_ := Aside0.mk ((by rw [hg]; exact (below_size q3_0) : w.heap.size ≤ gb228))
              have n12_ := Aside0.mk ((by rw [hg]; exact (below_size q3_0) : w.heap.size ≤ gb228))
              have n13_ := Aside0.mk ((q3_17 : gb175 ≠ gb228))
              have n14_ := Aside0.mk ((q3_18 : gb228 ≠ gb175))
              have n15_ := Aside0.mk ((q3_15 : gb176 ≠ gb228))
              have n16_ := Aside0.mk ((q3_16 : gb228 ≠ gb176))
              have n17_ := Aside0.mk ((q3_33 : gb190 ≠ gb228))
              have n18_ := Aside0.mk ((q3_34 : gb228 ≠ gb190))
              have n19_ := Aside0.mk ((by rw [hg]; exact Nat.ne_of_lt (blk_lt (g := gb194) (o := .cells #[.slice Ao35 t211.length co35] 36 (0, 0)) q3_5) : gb194 ≠ gb228))
              have n20_ := Aside0.mk ((by rw [hg]; exact Nat.ne_of_gt (blk_lt (g := gb194) (o := .cells #[.slice Ao35 t211.length co35] 36 (0, 0)) q3_5) : gb228 ≠ gb194))
              have n21_ := Aside0.mk ((by rw [hg]; exact Nat.ne_of_lt (blk_lt (g := gb204) (o := .cells #[.slice Ao46 t199.length co46] 36 (0, 0)) q3_6) : gb204 ≠ gb228))
              have n22_ := Aside0.mk ((by rw [hg]; exact Nat.ne_of_gt (blk_lt (g := gb204) (o := .cells #[.slice Ao46 t199.length co46] 36 (0, 0)) q3_6) : gb228 ≠ gb204))
              clear HO_191000
              clear HO_195000
              clear HO_205000
              clear HO218
              clear BK175
              clear BK176
              clear BK190
              clear BK194
              clear BK204
              clear HB
              have HO_191000 := n0_
              have HO_195000 := n1_
              have HO_205000 := n2_
              have HO218 := n3_
              have BK175 := n4_
              have BK176 := n5_
              have BK190 := n6_
              have BK194 := n7_
              have BK204 := n8_
              have HB := n9_
              have BK228 := n10_
              have GW228 := n11_
              have GE228 := n12_
              have NB175_228 := n13_
              have NB228_175 := n14_
              have NB176_228 := n15_
              have NB228_176 := n16_
              have NB190_228 := n17_
              have NB228_190 := n18_
              have NB194_228 := n19_
              have NB228_194 := n20_
              have NB204_228 := n21_
              have NB228_204 := n22_
              clear n0_ n1_ n2_ n3_ n4_ n5_ n6_ n7_ n8_ n9_ n10_ n11_ n12_ n13_ n14_ n15_ n16_ n17_ n18_ n19_ n20_ n21_ n22_
              clear hb hbox hg
              refine hK.out _ _ ⟨(blk_cell BK175.out 0).trans rfl, (blk_cell BK176.out 0).trans rfl, (blk_cell BK176.out 1).trans rfl, (blk_cell BK176.out 2).trans rfl, (blk_cell BK176.out 3).trans rfl⟩ (fun hHeld => ?_)
              clear hK K
              refine norm_ (a' := ?_) ?_ ?_
              rotate_left
              ·show Act.put _ (some 16) _ = _
               simp only [Act.put, List.setIfInBounds_toArray, List.set_cons_zero, List.set_cons_succ, i64_w, i32_w]
               rfl
              refine one_ (i := 3) (N := some 98) #[T,T,T,T,F,F,F,F,F,T,F,F,F] rfl rfl (one_of HT_.out q3_30) (by decide) (fun K hK => ?_)
              refine goes_ Try.func24 q3_30 rfl #[.agg #[.int .i64 a1_0, .int .i64 a1_1, .int .i64 a1_2, .int .i64 a1_3]] (by rfl) rfl rfl q3_7 ?_
              with_reducible refine (laws_toAct.calls a1_0 a1_1 a1_2 a1_3 t219 t220 t221 t222 _ A145.out).mono ?_
              rintro e w159 ⟨rfl, hb⟩
              refine ⟨_, rfl, ?_⟩
              have n0_ := Aside0.mk (Kd.R_below q3_10 hb)
              have n1_ := Aside0.mk (Kd.R_below q3_11 hb)
              have n2_ := Aside0.mk (Kd.R_below q3_12 hb)
              have n3_ := Aside0.mk (Kd.R_below q3_21 hb)
              have n4_ := Aside0.mk (blk_below (g := gb175) (o := .cells #[.slice A0_0 l0_0.length c0_0] 31 (0, 0)) q3_1 hb)
              have n5_ := Aside0.mk (blk_below (g := gb176) (o := .cells #[.int .i64 a1_0, .int .i64 a1_1, .int .i64 a1_2, .int .i64 a1_3] 33 (0, 0)) q3_2 hb)
              have n6_ := Aside0.mk (blk_below (g := gb190) (o := .cells #[.slice Ao29 t185.length co29] 36 (0, 0)) q3_3 hb)
              have n7_ := Aside0.mk (blk_below (g := gb194) (o := .cells #[.slice Ao35 t211.length co35] 36 (0, 0)) q3_5 hb)
              have n8_ := Aside0.mk (blk_below (g := gb204) (o := .cells #[.slice Ao46 t199.length co46] 36 (0, 0)) q3_6 hb)
              have n9_ := Aside0.mk (blk_below (g := gb228) (o := .cells #[.slice none 0 0] 36 (0, 0)) q3_20 hb)
              have n10_ := Aside0.mk (below_step q3_4 hb)
              clear HO_191000
              clear HO_195000
              clear HO_205000
              clear HO218
              clear BK175
              clear BK176
              clear BK190
              clear BK194
              clear BK204
              clear BK228
              clear HB
              have HO_191000 := n0_
              have HO_195000 := n1_
              have HO_205000 := n2_
              have HO218 := n3_
              have BK175 := n4_
              have BK176 := n5_
              have BK190 := n6_
              have BK194 := n7_
              have BK204 := n8_
              have BK228 := n9_
              have HB := n10_
              clear n0_ n1_ n2_ n3_ n4_ n5_ n6_ n7_ n8_ n9_ n10_
              (try clear hb)
              (try clear hb2)
              (try clear hk)
              (try clear hi)
              obtain ⟨Ao160, co160, eo160⟩ := Kd.R_slice HO218.out
              (first | subst eo160 | (injection eo160 with f1_ f2_ f3_; have f4_ := f1_.symm; have f5_ := f3_.symm; clear f1_ f2_ f3_; subst f4_; subst f5_))
              refine hK.out _ _ ⟨(blk_cell BK175.out 0).trans rfl, (blk_cell BK176.out 0).trans rfl, (blk_cell BK176.out 1).trans rfl, (blk_cell BK176.out 2).trans rfl, (blk_cell BK176.out 3).trans rfl⟩ (fun hHeld => ?_)
              clear hK K
              refine norm_ (a' := ?_) ?_ ?_
              rotate_left
              ·show Act.put _ (some 98) _ = _
               simp only [Act.put, List.setIfInBounds_toArray, List.set_cons_zero, List.set_cons_succ, i64_w, i32_w]
               rfl
              refine one_ (i := 4) (N := some 99) #[T,T,T,T,T,F,F,F,F,T,F,F,F] rfl rfl (one_of HT_.out q3_30) (by decide) (fun K hK => ?_)
              refine goes_ Try.func28 q3_30 rfl #[.agg #[.slice Ao160 t216.length co160], .agg #[.int .i64 t219, .int .i64 t220, .int .i64 t221, .int .i64 t222]] (by rfl) rfl rfl q3_7 ?_
              with_reducible refine (impl_Do.calls _ _ t216 t219 t220 t221 t222 t223 t226 t227 _ ?side1 ?side2 A146.out).mono ?_
              (case side1 => exact q3_53)
              (case side2 => exact (Kd.R_reads' HO218.out).2.1)
              rintro e w161 ⟨v224, rfl, ho0, hb⟩
              refine ⟨_, rfl, ?_⟩
              have n0_ := Aside0.mk (Kd.R_elder' q3_10 (Kd.R_base ho0) hb)
              have n1_ := Aside0.mk (Kd.R_elder' q3_11 (Kd.R_base ho0) hb)
              have n2_ := Aside0.mk (Kd.R_elder' q3_12 (Kd.R_base ho0) hb)
              have n3_ := Aside0.mk (Kd.R_elder' q3_21 (Kd.R_base ho0) hb)
              have n4_ := Aside0.mk (Kd.R_lower (Kd.R_new' (Kd.R_new' (Kd.R_new' (Kd.R_new' ho0 (Kd.R_lt q3_10)) (Kd.R_lt q3_11)) (Kd.R_lt q3_12)) (Kd.R_lt q3_21)) (below_size q3_4))
              have n5_ := Aside0.mk (blk_below (g := gb175) (o := .cells #[.slice A0_0 l0_0.length c0_0] 31 (0, 0)) q3_1 hb)
              have n6_ := Aside0.mk (blk_below (g := gb176) (o := .cells #[.int .i64 a1_0, .int .i64 a1_1, .int .i64 a1_2, .int .i64 a1_3] 33 (0, 0)) q3_2 hb)
              have n7_ := Aside0.mk (blk_below (g := gb190) (o := .cells #[.slice Ao29 t185.length co29] 36 (0, 0)) q3_3 hb)
              have n8_ := Aside0.mk (blk_below (g := gb194) (o := .cells #[.slice Ao35 t211.length co35] 36 (0, 0)) q3_5 hb)
              have n9_ := Aside0.mk (blk_below (g := gb204) (o := .cells #[.slice Ao46 t199.length co46] 36 (0, 0)) q3_6 hb)
              have n10_ := Aside0.mk (blk_below (g := gb228) (o := .cells #[.slice none 0 0] 36 (0, 0)) q3_20 hb)
              have n11_ := Aside0.mk (below_step q3_4 hb)
              clear HO_191000
              clear HO_195000
              clear HO_205000
              clear HO218
              clear BK175
              clear BK176
              clear BK190
              clear BK194
              clear BK204
              clear BK228
              clear HB
              have HO_191000 := n0_
              have HO_195000 := n1_
              have HO_205000 := n2_
              have HO218 := n3_
              have HO225 := n4_
              have BK175 := n5_
              have BK176 := n6_
              have BK190 := n7_
              have BK194 := n8_
              have BK204 := n9_
              have BK228 := n10_
              have HB := n11_
              clear n0_ n1_ n2_ n3_ n4_ n5_ n6_ n7_ n8_ n9_ n10_ n11_
              (try clear hb)
              (try clear hb2)
              (try clear hk)
              (try clear hi)
              (try clear ho0)
              refine hK.out _ _ ⟨(blk_cell BK175.out 0).trans rfl, (blk_cell BK176.out 0).trans rfl, (blk_cell BK176.out 1).trans rfl, (blk_cell BK176.out 2).trans rfl, (blk_cell BK176.out 3).trans rfl⟩ (fun hHeld => ?_)
              clear hK K
              refine norm_ (a' := ?_) ?_ ?_
              rotate_left
              ·show Act.put _ (some 99) _ = _
               simp only [Act.put, List.setIfInBounds_toArray, List.set_cons_zero, List.set_cons_succ, i64_w, i32_w]
               rfl
              refine q3_p 5 94 #[T,T,T,T,T,T,F,F,F,T,F,F,F] ?_
              refine q3_p 6 100 #[T,T,T,T,T,T,T,F,F,T,F,F,F] ?_
              refine q3_p 7 101 #[T,T,T,T,T,T,T,T,F,T,F,F,F] ?_
              refine q3_p 8 102 #[T,T,T,T,T,T,T,T,T,T,F,F,F] ?_
              exact norm_ q3_29 (hCont (.slice Ao160 t216.length co160, v224, gb228) _ ⟨hHeld, q3_45, q3_46, q3_40, q3_41, q3_42, q3_1, q3_2, q3_3, q3_5, q3_6, q3_20, GW228.out, GE228.out, NB175_228.out, NB228_175.out, NB176_228.out, NB228_176.out, NB190_228.out, NB228_190.out, NB194_228.out, NB228_194.out, NB204_228.out, NB228_204.out, q3_4⟩)
            ·skip
             refine box_step ?hg (N := 16) ?hd (cs := #[.slice none 0 0]) (t := 36) ?hr ?_; (case hd => rfl); (case hg => rfl); (case hr => first | (go_simp; done) | (go_simp; rfl))
             intro gb228 hg w157 hbox hb
             have n0_ := Aside0.mk (Kd.R_below q3_10 hb)
             have n1_ := Aside0.mk (Kd.R_below q3_11 hb)
             have n2_ := Aside0.mk (Kd.R_below q3_12 hb)
             have n3_ := Aside0.mk (blk_below (g := gb175) (o := .cells #[.slice A0_0 l0_0.length c0_0] 31 (0, 0)) q3_1 hb)
             have n4_ := Aside0.mk (blk_below (g := gb176) (o := .cells #[.int .i64 a1_0, .int .i64 a1_1, .int .i64 a1_2, .int .i64 a1_3] 33 (0, 0)) q3_2 hb)
             have n5_ := Aside0.mk (blk_below (g := gb190) (o := .cells #[.slice Ao29 t185.length co29] 36 (0, 0)) q3_3 hb)
             have n6_ := Aside0.mk (blk_below (g := gb194) (o := .cells #[.slice Ao35 t211.length co35] 36 (0, 0)) q3_5 hb)
             have n7_ := Aside0.mk (blk_below (g := gb204) (o := .cells #[.slice Ao46 t199.length co46] 36 (0, 0)) q3_6 hb)
             have n8_ := Aside0.mk (below_step q3_0 hb)
             have n9_ := Aside0.mk (hbox)
             have n10_ := Aside0.mk ((by rw [hg]; exact (below_size q3_0) : w.heap.size ≤ gb228))
             have n11_ := Aside0.mk ((by rw [hg]; exact (below_size q3_0) : w.heap.size ≤ gb228))
             have n12_ := Aside0.mk ((q3_17 : gb175 ≠ gb228))
             have n13_ := Aside0.mk ((q3_18 : gb228 ≠ gb175))
             have n14_ := Aside0.mk ((q3_15 : gb176 ≠ gb228))
             have n15_ := Aside0.mk ((q3_16 : gb228 ≠ gb176))
             have n16_ := Aside0.mk ((q3_33 : gb190 ≠ gb228))
             have n17_ := Aside0.mk ((q3_34 : gb228 ≠ gb190))
             have n18_ := Aside0.mk ((by rw [hg]; exact Nat.ne_of_lt (blk_lt (g := gb194) (o := .cells #[.slice Ao35 t211.length co35] 36 (0, 0)) q3_5) : gb194 ≠ gb228))
             have n19_ := Aside0.mk ((by rw [hg]; exact Nat.ne_of_gt (blk_lt (g := gb194) (o := .cells #[.slice Ao35 t211.length co35] 36 (0, 0)) q3_5) : gb228 ≠ gb194))
             have n20_ := Aside0.mk ((by rw [hg]; exact Nat.ne_of_lt (blk_lt (g := gb204) (o := .cells #[.slice Ao46 t199.length co46] 36 (0, 0)) q3_6) : gb204 ≠ gb228))
             have n21_ := Aside0.mk ((by rw [hg]; exact Nat.ne_of_gt (blk_lt (g := gb204) (o := .cells #[.slice Ao46 t199.length co46] 36 (0, 0)) q3_6) : gb228 ≠ gb204))
             clear HO_191000
             clear HO_195000
             clear HO_205000
             clear BK175
             clear BK176
             clear BK190
             clear BK194
             clear BK204
             clear HB
             have HO_191000 := n0_
             have HO_195000 := n1_
             have HO_205000 := n2_
             have BK175 := n3_
             have BK176 := n4_
             have BK190 := n5_
             have BK194 := n6_
             have BK204 := n7_
             have HB := n8_
             have BK228 := n9_
             have GW228 := n10_
             have GE228 := n11_
             have NB175_228 := n12_
             have NB228_175 := n13_
             have NB176_228 := n14_
             have NB228_176 := n15_
             have NB190_228 := n16_
             have NB228_190 := n17_
             have NB194_228 := n18_
             have NB228_194 := n19_
             have NB204_228 := n20_
             have NB228_204 := n21_
             clear n0_ n1_ n2_ n3_ n4_ n5_ n6_ n7_ n8_ n9_ n10_ n11_ n12_ n13_ n14_ n15_ n16_ n17_ n18_ n19_ n20_ n21_
             clear hb hbox hg
             refine hK.out _ _ ⟨(blk_cell BK175.out 0).trans rfl, (blk_cell BK176.out 0).trans rfl, (blk_cell BK176.out 1).trans rfl, (blk_cell BK176.out 2).trans rfl, (blk_cell BK176.out 3).trans rfl⟩ (fun hHeld => ?_)
             clear hK K
             refine norm_ (a' := ?_) ?_ ?_
             rotate_left
             ·show Act.put _ (some 16) _ = _
              simp only [Act.put, List.setIfInBounds_toArray, List.set_cons_zero, List.set_cons_succ, i64_w, i32_w]
              rfl
             refine one_ (i := 1) (N := some 96) #[T,T,T,F,F,F,F,F,F,T,F,F,F] rfl rfl (one_of HT_.out q3_30) (by decide) (fun K hK => ?_)
             refine goes_ Try.func23 q3_30 rfl #[.agg #[.slice A0_0 l0_0.length c0_0]] (by rfl) rfl rfl q3_7 ?_
             with_reducible refine (laws_toMem.calls kj85 _ _ l0_0 t216 _ ?side1 ?side2 A144.out).mono ?_
             (case side1 => exact q3_27)
             (case side2 => exact HC0_0.out)
             rintro e w158 ⟨v217, rfl, ho0, hb⟩
             refine ⟨_, rfl, ?_⟩
             have n0_ := Aside0.mk (Kd.R_elder' q3_10 (Kd.R_base ho0) hb)
             have n1_ := Aside0.mk (Kd.R_elder' q3_11 (Kd.R_base ho0) hb)
             have n2_ := Aside0.mk (Kd.R_elder' q3_12 (Kd.R_base ho0) hb)
             have n3_ := Aside0.mk (Kd.R_lower (Kd.R_new' (Kd.R_new' (Kd.R_new' ho0 (Kd.R_lt q3_10)) (Kd.R_lt q3_11)) (Kd.R_lt q3_12)) (below_size q3_4))
             have n4_ := Aside0.mk (blk_below (g := gb175) (o := .cells #[.slice A0_0 l0_0.length c0_0] 31 (0, 0)) q3_1 hb)
             have n5_ := Aside0.mk (blk_below (g := gb176) (o := .cells #[.int .i64 a1_0, .int .i64 a1_1, .int .i64 a1_2, .int .i64 a1_3] 33 (0, 0)) q3_2 hb)
             have n6_ := Aside0.mk (blk_below (g := gb190) (o := .cells #[.slice Ao29 t185.length co29] 36 (0, 0)) q3_3 hb)
             have n7_ := Aside0.mk (blk_below (g := gb194) (o := .cells #[.slice Ao35 t211.length co35] 36 (0, 0)) q3_5 hb)
             have n8_ := Aside0.mk (blk_below (g := gb204) (o := .cells #[.slice Ao46 t199.length co46] 36 (0, 0)) q3_6 hb)
             have n9_ := Aside0.mk (blk_below (g := gb228) (o := .cells #[.slice none 0 0] 36 (0, 0)) q3_20 hb)
             have n10_ := Aside0.mk (below_step q3_4 hb)
             clear HO_191000
             clear HO_195000
             clear HO_205000
             clear BK175
             clear BK176
             clear BK190
             clear BK194
             clear BK204
             clear BK228
             clear HB
             have HO_191000 := n0_
             have HO_195000 := n1_
             have HO_205000 := n2_
             have HO218 := n3_
             have BK175 := n4_
             have BK176 := n5_
             have BK190 := n6_
             have BK194 := n7_
             have BK204 := n8_
             have BK228 := n9_
             have HB := n10_
             clear n0_ n1_ n2_ n3_ n4_ n5_ n6_ n7_ n8_ n9_ n10_
             (try clear hb)
             (try clear hb2)
             (try clear hk)
             (try clear hi)
             (try clear ho0)
             refine hK.out _ _ ⟨(blk_cell BK175.out 0).trans rfl, (blk_cell BK176.out 0).trans rfl, (blk_cell BK176.out 1).trans rfl, (blk_cell BK176.out 2).trans rfl, (blk_cell BK176.out 3).trans rfl⟩ (fun hHeld => ?_)
             clear hK K
             refine norm_ (a' := ?_) ?_ ?_
             rotate_left
             ·show Act.put _ (some 96) _ = _
              simp only [Act.put, List.setIfInBounds_toArray, List.set_cons_zero, List.set_cons_succ, i64_w, i32_w]
              rfl
             refine one_ (i := 3) (N := some 98) #[T,T,T,T,F,F,F,F,F,T,F,F,F] rfl rfl (one_of HT_.out q3_30) (by decide) (fun K hK => ?_)
             refine goes_ Try.func24 q3_30 rfl #[.agg #[.int .i64 a1_0, .int .i64 a1_1, .int .i64 a1_2, .int .i64 a1_3]] (by rfl) rfl rfl q3_7 ?_
             with_reducible refine (laws_toAct.calls a1_0 a1_1 a1_2 a1_3 t219 t220 t221 t222 _ A145.out).mono ?_
             rintro e w159 ⟨rfl, hb⟩
             refine ⟨_, rfl, ?_⟩
             have n0_ := Aside0.mk (Kd.R_below q3_10 hb)
             have n1_ := Aside0.mk (Kd.R_below q3_11 hb)
             have n2_ := Aside0.mk (Kd.R_below q3_12 hb)
             have n3_ := Aside0.mk (Kd.R_below q3_21 hb)
             have n4_ := Aside0.mk (blk_below (g := gb175) (o := .cells #[.slice A0_0 l0_0.length c0_0] 31 (0, 0)) q3_1 hb)
             have n5_ := Aside0.mk (blk_below (g := gb176) (o := .cells #[.int .i64 a1_0, .int .i64 a1_1, .int .i64 a1_2, .int .i64 a1_3] 33 (0, 0)) q3_2 hb)
             have n6_ := Aside0.mk (blk_below (g := gb190) (o := .cells #[.slice Ao29 t185.length co29] 36 (0, 0)) q3_3 hb)
             have n7_ := Aside0.mk (blk_below (g := gb194) (o := .cells #[.slice Ao35 t211.length co35] 36 (0, 0)) q3_5 hb)
             have n8_ := Aside0.mk (blk_below (g := gb204) (o := .cells #[.slice Ao46 t199.length co46] 36 (0, 0)) q3_6 hb)
             have n9_ := Aside0.mk (blk_below (g := gb228) (o := .cells #[.slice none 0 0] 36 (0, 0)) q3_20 hb)
             have n10_ := Aside0.mk (below_step q3_4 hb)
             clear HO_191000
             clear HO_195000
             clear HO_205000
             clear HO218
             clear BK175
             clear BK176
             clear BK190
             clear BK194
             clear BK204
             clear BK228
             clear HB
             have HO_191000 := n0_
             have HO_195000 := n1_
             have HO_205000 := n2_
             have HO218 := n3_
             have BK175 := n4_
             have BK176 := n5_
             have BK190 := n6_
             have BK194 := n7_
             have BK204 := n8_
             have BK228 := n9_
             have HB := n10_
             clear n0_ n1_ n2_ n3_ n4_ n5_ n6_ n7_ n8_ n9_ n10_
             (try clear hb)
             (try clear hb2)
             (try clear hk)
             (try clear hi)
             obtain ⟨Ao160, co160, eo160⟩ := Kd.R_slice HO218.out
             (first | subst eo160 | (injection eo160 with f1_ f2_ f3_; have f4_ := f1_.symm; have f5_ := f3_.symm; clear f1_ f2_ f3_; subst f4_; subst f5_))
             refine hK.out _ _ ⟨(blk_cell BK175.out 0).trans rfl, (blk_cell BK176.out 0).trans rfl, (blk_cell BK176.out 1).trans rfl, (blk_cell BK176.out 2).trans rfl, (blk_cell BK176.out 3).trans rfl⟩ (fun hHeld => ?_)
             clear hK K
             refine norm_ (a' := ?_) ?_ ?_
             rotate_left
             ·show Act.put _ (some 98) _ = _
              simp only [Act.put, List.setIfInBounds_toArray, List.set_cons_zero, List.set_cons_succ, i64_w, i32_w]
              rfl
             refine one_ (i := 4) (N := some 99) #[T,T,T,T,T,F,F,F,F,T,F,F,F] rfl rfl (one_of HT_.out q3_30) (by decide) (fun K hK => ?_)
             refine goes_ Try.func28 q3_30 rfl #[.agg #[.slice Ao160 t216.length co160], .agg #[.int .i64 t219, .int .i64 t220, .int .i64 t221, .int .i64 t222]] (by rfl) rfl rfl q3_7 ?_
             with_reducible refine (impl_Do.calls _ _ t216 t219 t220 t221 t222 t223 t226 t227 _ ?side1 ?side2 A146.out).mono ?_
             (case side1 => exact q3_53)
             (case side2 => exact (Kd.R_reads' HO218.out).2.1)
             rintro e w161 ⟨v224, rfl, ho0, hb⟩
             refine ⟨_, rfl, ?_⟩
             have n0_ := Aside0.mk (Kd.R_elder' q3_10 (Kd.R_base ho0) hb)
             have n1_ := Aside0.mk (Kd.R_elder' q3_11 (Kd.R_base ho0) hb)
             have n2_ := Aside0.mk (Kd.R_elder' q3_12 (Kd.R_base ho0) hb)
             have n3_ := Aside0.mk (Kd.R_elder' q3_21 (Kd.R_base ho0) hb)
             have n4_ := Aside0.mk (Kd.R_lower (Kd.R_new' (Kd.R_new' (Kd.R_new' (Kd.R_new' ho0 (Kd.R_lt q3_10)) (Kd.R_lt q3_11)) (Kd.R_lt q3_12)) (Kd.R_lt q3_21)) (below_size q3_4))
             have n5_ := Aside0.mk (blk_below (g := gb175) (o := .cells #[.slice A0_0 l0_0.length c0_0] 31 (0, 0)) q3_1 hb)
             have n6_ := Aside0.mk (blk_below (g := gb176) (o := .cells #[.int .i64 a1_0, .int .i64 a1_1, .int .i64 a1_2, .int .i64 a1_3] 33 (0, 0)) q3_2 hb)
             have n7_ := Aside0.mk (blk_below (g := gb190) (o := .cells #[.slice Ao29 t185.length co29] 36 (0, 0)) q3_3 hb)
             have n8_ := Aside0.mk (blk_below (g := gb194) (o := .cells #[.slice Ao35 t211.length co35] 36 (0, 0)) q3_5 hb)
             have n9_ := Aside0.mk (blk_below (g := gb204) (o := .cells #[.slice Ao46 t199.length co46] 36 (0, 0)) q3_6 hb)
             have n10_ := Aside0.mk (blk_below (g := gb228) (o := .cells #[.slice none 0 0] 36 (0, 0)) q3_20 hb)
             have n11_ := Aside0.mk (below_step q3_4 hb)
             clear HO_191000
             clear HO_195000
             clear HO_205000
             clear HO218
             clear BK175
             clear BK176
             clear BK190
             clear BK194
             clear BK204
             clear BK228
             clear HB
             have HO_191000 := n0_
             have HO_195000 := n1_
             have HO_205000 := n2_
             have HO218 := n3_
             have HO225 := n4_
             have BK175 := n5_
             have BK176 := n6_
             have BK190 := n7_
             have BK194 := n8_
             have BK204 := n9_
             have BK228 := n10_
             have HB := n11_
             clear n0_ n1_ n2_ n3_ n4_ n5_ n6_ n7_ n8_ n9_ n10_ n11_
             (try clear hb)
             (try clear hb2)
             (try clear hk)
             (try clear hi)
             (try clear ho0)
             refine hK.out _ _ ⟨(blk_cell BK175.out 0).trans rfl, (blk_cell BK176.out 0).trans rfl, (blk_cell BK176.out 1).trans rfl, (blk_cell BK176.out 2).trans rfl, (blk_cell BK176.out 3).trans rfl⟩ (fun hHeld => ?_)
             clear hK K
             refine norm_ (a' := ?_) ?_ ?_
             rotate_left
             ·show Act.put _ (some 99) _ = _
              simp only [Act.put, List.setIfInBounds_toArray, List.set_cons_zero, List.set_cons_succ, i64_w, i32_w]
              rfl
             refine q3_p 5 94 #[T,T,T,T,T,T,F,F,F,T,F,F,F] ?_
             refine q3_p 6 100 #[T,T,T,T,T,T,T,F,F,T,F,F,F] ?_
             refine q3_p 7 101 #[T,T,T,T,T,T,T,T,F,T,F,F,F] ?_
             refine q3_p 8 102 #[T,T,T,T,T,T,T,T,T,T,F,F,F] ?_
             exact norm_ q3_29 (hCont (.slice Ao160 t216.length co160, v224, gb228) _ ⟨hHeld, q3_45, q3_46, q3_40, q3_41, q3_42, q3_1, q3_2, q3_3, q3_5, q3_6, q3_20, GW228.out, GE228.out, NB175_228.out, NB228_175.out, NB176_228.out, NB228_176.out, NB190_228.out, NB228_190.out, NB194_228.out, NB228_194.out, NB204_228.out, NB228_204.out, q3_4⟩)
           rintro ⟨v217, v224, gb228⟩ w162 ⟨hS_, h0_, h1_, h2_, h3_, h4_, h5_, h6_, h7_, h8_, h9_, h10_, h11_, h12_, h13_, h14_, h15_, h16_, h17_, h18_, h19_, h20_, h21_, h22_, h23_⟩
           have n0_ : Aside0 (Kd.R (Kd.int .i64) 3 w162 w.heap.size (fun k_ => some k_ ≠ (v224 : Value).ownBlock ∧ some k_ ≠ (.slice Ao29 t185.length co29 : Value).ownBlock ∧ some k_ ≠ (.slice Ao35 t211.length co35 : Value).ownBlock ∧ some k_ ≠ (.slice Ao46 t199.length co46 : Value).ownBlock) v217 t216) := ⟨h0_⟩
           have n1_ : Aside0 (Kd.R (Kd.int .i64) 3 w162 w.heap.size (fun k_ => some k_ ≠ (v217 : Value).ownBlock ∧ some k_ ≠ (.slice Ao29 t185.length co29 : Value).ownBlock ∧ some k_ ≠ (.slice Ao35 t211.length co35 : Value).ownBlock ∧ some k_ ≠ (.slice Ao46 t199.length co46 : Value).ownBlock) v224 t223) := ⟨h1_⟩
           have n2_ : Aside0 (Kd.R (Kd.int .i64) 3 w162 w.heap.size (fun k_ => some k_ ≠ (v217 : Value).ownBlock ∧ some k_ ≠ (v224 : Value).ownBlock ∧ some k_ ≠ (.slice Ao35 t211.length co35 : Value).ownBlock ∧ some k_ ≠ (.slice Ao46 t199.length co46 : Value).ownBlock) (.slice Ao29 t185.length co29) t185) := ⟨h2_⟩
           have n3_ : Aside0 (Kd.R (Kd.int .i64) 3 w162 w.heap.size (fun k_ => some k_ ≠ (v217 : Value).ownBlock ∧ some k_ ≠ (v224 : Value).ownBlock ∧ some k_ ≠ (.slice Ao29 t185.length co29 : Value).ownBlock ∧ some k_ ≠ (.slice Ao46 t199.length co46 : Value).ownBlock) (.slice Ao35 t211.length co35) t211) := ⟨h3_⟩
           have n4_ : Aside0 (Kd.R (Kd.int .i64) 3 w162 w.heap.size (fun k_ => some k_ ≠ (v217 : Value).ownBlock ∧ some k_ ≠ (v224 : Value).ownBlock ∧ some k_ ≠ (.slice Ao29 t185.length co29 : Value).ownBlock ∧ some k_ ≠ (.slice Ao35 t211.length co35 : Value).ownBlock) (.slice Ao46 t199.length co46) t214) := ⟨h4_⟩
           have n5_ : Aside0 (w162.heap[gb175]? = some (.cells #[.slice A0_0 l0_0.length c0_0] 31 (0, 0))) := ⟨h5_⟩
           have n6_ : Aside0 (w162.heap[gb176]? = some (.cells #[.int .i64 a1_0, .int .i64 a1_1, .int .i64 a1_2, .int .i64 a1_3] 33 (0, 0))) := ⟨h6_⟩
           have n7_ : Aside0 (w162.heap[gb190]? = some (.cells #[.slice Ao29 t185.length co29] 36 (0, 0))) := ⟨h7_⟩
           have n8_ : Aside0 (w162.heap[gb194]? = some (.cells #[.slice Ao35 t211.length co35] 36 (0, 0))) := ⟨h8_⟩
           have n9_ : Aside0 (w162.heap[gb204]? = some (.cells #[.slice Ao46 t199.length co46] 36 (0, 0))) := ⟨h9_⟩
           have n10_ : Aside0 (w162.heap[gb228]? = some (.cells #[.slice none 0 0] 36 (0, 0))) := ⟨h10_⟩
           have n11_ : Aside0 (w.heap.size ≤ gb228) := ⟨h11_⟩
           have n12_ : Aside0 (w.heap.size ≤ gb228) := ⟨h12_⟩
           have n13_ : Aside0 (gb175 ≠ gb228) := ⟨h13_⟩
           have n14_ : Aside0 (gb228 ≠ gb175) := ⟨h14_⟩
           have n15_ : Aside0 (gb176 ≠ gb228) := ⟨h15_⟩
           have n16_ : Aside0 (gb228 ≠ gb176) := ⟨h16_⟩
           have n17_ : Aside0 (gb190 ≠ gb228) := ⟨h17_⟩
           have n18_ : Aside0 (gb228 ≠ gb190) := ⟨h18_⟩
           have n19_ : Aside0 (gb194 ≠ gb228) := ⟨h19_⟩
           have n20_ : Aside0 (gb228 ≠ gb194) := ⟨h20_⟩
           have n21_ : Aside0 (gb204 ≠ gb228) := ⟨h21_⟩
           have n22_ : Aside0 (gb228 ≠ gb204) := ⟨h22_⟩
           have n23_ : Aside0 (Below w.heap.size w w162) := ⟨h23_⟩
           clear HO_191000
           clear HO_195000
           clear HO_205000
           clear BK175
           clear BK176
           clear BK190
           clear BK194
           clear BK204
           clear HB
           clear h0_ h1_ h2_ h3_ h4_ h5_ h6_ h7_ h8_ h9_ h10_ h11_ h12_ h13_ h14_ h15_ h16_ h17_ h18_ h19_ h20_ h21_ h22_ h23_
           have HO218 := n0_
           have HO225 := n1_
           have HO_191000 := n2_
           have HO_195000 := n3_
           have HO_205000 := n4_
           have BK175 := n5_
           have BK176 := n6_
           have BK190 := n7_
           have BK194 := n8_
           have BK204 := n9_
           have BK228 := n10_
           have GW228 := n11_
           have GE228 := n12_
           have NB175_228 := n13_
           have NB228_175 := n14_
           have NB176_228 := n15_
           have NB228_176 := n16_
           have NB190_228 := n17_
           have NB228_190 := n18_
           have NB194_228 := n19_
           have NB228_194 := n20_
           have NB204_228 := n21_
           have NB228_204 := n22_
           have HB := n23_
           clear n0_ n1_ n2_ n3_ n4_ n5_ n6_ n7_ n8_ n9_ n10_ n11_ n12_ n13_ n14_ n15_ n16_ n17_ n18_ n19_ n20_ n21_ n22_ n23_
           have hHeld : w162.cell? ⟨gb175, 0, none⟩ = some (.slice A0_0 l0_0.length c0_0) ∧ w162.cell? ⟨gb176, 0, none⟩ = some (.int .i64 a1_0) ∧ w162.cell? ⟨gb176, 1, none⟩ = some (.int .i64 a1_1) ∧ w162.cell? ⟨gb176, 2, none⟩ = some (.int .i64 a1_2) ∧ w162.cell? ⟨gb176, 3, none⟩ = some (.int .i64 a1_3) := hS_
           obtain ⟨Ao163, co163, eo163⟩ := Kd.R_slice HO225.out
           (first | subst eo163 | (injection eo163 with f1_ f2_ f3_; have f4_ := f1_.symm; have f5_ := f3_.symm; clear f1_ f2_ f3_; subst f4_; subst f5_))
           refine norm_ (a' := ?_) ?_ ?_
           rotate_left
           ·simp only [putAll, Act.put, List.setIfInBounds_toArray, List.set_cons_zero, List.set_cons_succ]
            rfl
           refine one_ (i := 10) (N := none) #[T,T,T,T,T,T,T,T,T,T,T,F,F] rfl rfl (one_of HT_.out q3_30) (by decide) (fun K hK => ?_)
           have hs164 : w162.cell? ⟨gb228, 0, none⟩ = some (.slice none 0 0) := (blk_cell BK228.out 0).trans rfl
           have hfs164 := blk_frozen BK228.out 0
           have hns164_0 := NB175_228.out
           have hns164_1 := NB176_228.out
           have hns164_2 := NB190_228.out
           have hns164_3 := NB194_228.out
           have hns164_4 := NB204_228.out
           have hms164_0 := NB228_175.out
           have hms164_1 := NB228_176.out
           have hms164_2 := NB228_190.out
           have hms164_3 := NB228_194.out
           have hms164_4 := NB228_204.out
           refine skip_ (w1 := ?_) (by rfl) rfl ?_ ?_
           rotate_left
           ·go_simp
            rfl
           refine hK.out _ _ ⟨((cell_far (p := ⟨gb228, _, none⟩) NB175_228.out _).trans (hHeld.1)), ((cell_far (p := ⟨gb228, _, none⟩) NB176_228.out _).trans (hHeld.2.1)), ((cell_far (p := ⟨gb228, _, none⟩) NB176_228.out _).trans (hHeld.2.2.1)), ((cell_far (p := ⟨gb228, _, none⟩) NB176_228.out _).trans (hHeld.2.2.2.1)), ((cell_far (p := ⟨gb228, _, none⟩) NB176_228.out _).trans (hHeld.2.2.2.2))⟩ (fun hHeld => ?_)
           clear hK K
           refine q3_p 11 17 #[T,T,T,T,T,T,T,T,T,T,T,T,F] ?_
           refine q3_p 12 18 #[T,T,T,T,T,T,T,T,T,T,T,T,T] ?_
           refine done_ (done_of HT_.out q3_30) ?_
           go_upto_region 25 with (fail)
           go_cut [116] (fun v116 wc => ∃ (kq : Nat) (x116_146 : Bool), v116 = .bool x116_146 ∧ Aside0 (laws_FnExactDo.j2 kq t213 x116_146 t214 = some r) ∧ Aside0 (kq ≤ kj85) ∧ Aside0 (Kd.R (Kd.int .i64) 3 wc w.heap.size (fun k_ => some k_ ≠ ((.slice Ao35 t211.length co35) : Value).ownBlock ∧ some k_ ≠ ((.slice Ao46 t199.length co46) : Value).ownBlock ∧ some k_ ≠ ((.slice Ao163 t223.length co163) : Value).ownBlock) (.slice Ao29 t185.length co29) t185) ∧ Aside0 (Kd.R (Kd.int .i64) 3 wc w.heap.size (fun k_ => some k_ ≠ ((.slice Ao29 t185.length co29) : Value).ownBlock ∧ some k_ ≠ ((.slice Ao46 t199.length co46) : Value).ownBlock ∧ some k_ ≠ ((.slice Ao163 t223.length co163) : Value).ownBlock) (.slice Ao35 t211.length co35) t211) ∧ Aside0 (Kd.R (Kd.int .i64) 3 wc w.heap.size (fun k_ => some k_ ≠ ((.slice Ao29 t185.length co29) : Value).ownBlock ∧ some k_ ≠ ((.slice Ao35 t211.length co35) : Value).ownBlock ∧ some k_ ≠ ((.slice Ao163 t223.length co163) : Value).ownBlock) (.slice Ao46 t199.length co46) t214) ∧ Aside0 (Kd.R (Kd.int .i64) 3 wc w.heap.size (fun k_ => some k_ ≠ ((.slice Ao29 t185.length co29) : Value).ownBlock ∧ some k_ ≠ ((.slice Ao35 t211.length co35) : Value).ownBlock ∧ some k_ ≠ ((.slice Ao46 t199.length co46) : Value).ownBlock) (.slice Ao163 t223.length co163) t223) ∧ Aside0 (wc.heap[gb175]? = some (.cells #[(.slice A0_0 l0_0.length c0_0)] 31 (0, 0))) ∧ Aside0 (wc.heap[gb176]? = some (.cells #[.int .i64 a1_0, .int .i64 a1_1, .int .i64 a1_2, .int .i64 a1_3] 33 (0, 0))) ∧ Aside0 (wc.heap[gb190]? = some (.cells #[(.slice Ao29 t185.length co29)] 36 (0, 0))) ∧ Aside0 (wc.heap[gb194]? = some (.cells #[(.slice Ao35 t211.length co35)] 36 (0, 0))) ∧ Aside0 (wc.heap[gb204]? = some (.cells #[(.slice Ao46 t199.length co46)] 36 (0, 0))) ∧ Aside0 (wc.heap[gb228]? = some (.cells #[(.slice Ao163 t223.length co163)] 36 (0, 0))) ∧ Aside0 (Below w.heap.size w wc))
           case first =>
            have H := HC147.out
            clear HC147
            replace H := Option.bind_eq_some_iff.mp H
            obtain ⟨t229, A1650, H⟩ := H
            replace H : (if t229 = true then (if t226 = t188 then (laws_FnExactDo.j2 kj85 t213 (t227 != t189) t214) else (laws_FnExactDo.j2 kj85 t213 true t214)) else (laws_FnExactDo.j2 kj85 t213 true t214)) = some r := H
            have A165 := Aside0.mk A1650
            clear A1650
            by_cases c166 : t229 = true
            ·subst c166
             have H1 : (if t226 = t188 then (laws_FnExactDo.j2 kj85 t213 (t227 != t189) t214) else (laws_FnExactDo.j2 kj85 t213 true t214)) = some r := by rw [if_pos rfl] at H; exact H
             clear H
             have H := H1
             clear H1
             by_cases c167 : t226 = t188
             ·rw [if_pos c167] at H
              have c167b0 : (t226 == t188) = true := beq_iff_eq.mpr c167
              have c167b1 : (t226 != t188) = false := bne_eq_false_iff_eq.mpr c167
              clear c167
              (first | rw [c167b0] | (simp only [i64_w, i32_w]; rw [c167b0]) | skip)
              have H' := Aside0.mk H
              clear H
              have hnb168 := NB228_175.out
              have hnc168 := NB175_228.out
              have hnb169 := NB228_176.out
              have hnc169 := NB176_228.out
              have hnb170 := NB228_190.out
              have hnc170 := NB190_228.out
              have hnb171 := NB228_194.out
              have hnc171 := NB194_228.out
              have hnb172 := NB228_204.out
              have hnc172 := NB204_228.out
              have hcz173_0 : w162.cell? ⟨gb228, 0, none⟩ = some (.slice none 0 0) := (blk_cell BK228.out 0).trans rfl
              have hfz173_0 := blk_frozen BK228.out 0
              have hnb174 := NB190_175.out
              have hnc174 := NB175_190.out
              have hnb175 := NB190_176.out
              have hnc175 := NB176_190.out
              have hnb176 := NB190_194.out
              have hnc176 := NB194_190.out
              have hnb177 := NB190_204.out
              have hnc177 := NB204_190.out
              have hcz178_0 : w162.cell? ⟨gb190, 0, none⟩ = some (.slice Ao29 t185.length co29) := (blk_cell BK190.out 0).trans rfl
              have hfz178_0 := blk_frozen BK190.out 0
              go_wp2_with (first | ((with_reducible refine gate_callee (f := 26) rfl ?_); refine goesL_ (some 105) rfl rfl Try.func26 q3_30 rfl #[.agg #[.slice Ao163 t223.length co163], .agg #[.slice Ao29 t185.length co29]] rfl q3_7 ?_; (with_reducible refine (laws_eqMem.calls kj85 _ _ t223 _ _ t185 true _ ?side1 ?side2 ?side3 ?side4 A165.out).mono ?_); (case side1 => exact q3_36); (case side2 => exact (Kd.R_reads' HO225.out).2.1); (case side3 => exact q3_35); (case side4 => exact (Kd.R_reads' HO_191000.out).2.1); rintro e w179 ⟨rfl, hb⟩; refine ⟨_, rfl, ?_⟩; have n0_ := Aside0.mk (Kd.R_below q3_22 hb); have n1_ := Aside0.mk (Kd.R_below q3_47 hb); have n2_ := Aside0.mk (Kd.R_below q3_48 hb); have n3_ := Aside0.mk (Kd.R_below q3_49 hb); have n4_ := Aside0.mk (Kd.R_below q3_23 hb); have n5_ := Aside0.mk (blk_below (g := gb175) (o := .cells #[.slice A0_0 l0_0.length c0_0] 31 (0, 0)) q3_58 hb); have n6_ := Aside0.mk (blk_below (g := gb176) (o := .cells #[.int .i64 a1_0, .int .i64 a1_1, .int .i64 a1_2, .int .i64 a1_3] 33 (0, 0)) q3_59 hb); have n7_ := Aside0.mk (blk_below (g := gb190) (o := .cells #[.slice Ao29 t185.length co29] 36 (0, 0)) (by (with_reducible repeat (first | refine blk_drewN ?_ _ | refine blk_drew ?_ | refine blk_alloc ?_ _)); refine blk_far ?_ NB190_228.out _; (with_reducible repeat (first | refine blk_drewN ?_ _ | refine blk_drew ?_ | refine blk_alloc ?_ _)); exact BK190.out) hb); have n8_ := Aside0.mk (blk_below (g := gb194) (o := .cells #[.slice Ao35 t211.length co35] 36 (0, 0)) (by (with_reducible repeat (first | refine blk_drewN ?_ _ | refine blk_drew ?_ | refine blk_alloc ?_ _)); refine blk_far ?_ NB194_228.out _; (with_reducible repeat (first | refine blk_drewN ?_ _ | refine blk_drew ?_ | refine blk_alloc ?_ _)); exact BK194.out) hb); have n9_ := Aside0.mk (blk_below (g := gb204) (o := .cells #[.slice Ao46 t199.length co46] 36 (0, 0)) (by (with_reducible repeat (first | refine blk_drewN ?_ _ | refine blk_drew ?_ | refine blk_alloc ?_ _)); refine blk_far ?_ NB204_228.out _; (with_reducible repeat (first | refine blk_drewN ?_ _ | refine blk_drew ?_ | refine blk_alloc ?_ _)); exact BK204.out) hb); have n10_ := Aside0.mk (blk_below (g := gb228) (o := .cells #[.slice Ao163 t223.length co163] 36 (0, 0)) q3_44 hb); have n11_ := Aside0.mk (below_step q3_4 hb); clear HO_191000; clear HO_195000; clear HO_205000; clear HO218; clear HO225; clear BK175; clear BK176; clear BK190; clear BK194; clear BK204; clear BK228; clear HB; have HO_191000 := n0_; have HO_195000 := n1_; have HO_205000 := n2_; have HO218 := n3_; have HO225 := n4_; have BK175 := n5_; have BK176 := n6_; have BK190 := n7_; have BK194 := n8_; have BK204 := n9_; have BK228 := n10_; have HB := n11_; clear n0_ n1_ n2_ n3_ n4_ n5_ n6_ n7_ n8_ n9_ n10_ n11_; (try clear hb); (try clear hb2); (try clear hk); (try clear hi)))
              go_meet
              case rel => exact ⟨_, ((t227 != t189)), (by first | rfl | (simp; done) | (simp [*]; done)), H', ⟨by have := HJ15.out; have := HJ85.out; first | omega | exact Nat.le_refl _⟩, ⟨by (try simp only [hl195000_85]); (with_reducible repeat (first | apply Kd.R_alloc | apply Kd.R_drewN | apply Kd.R_drew)); exact Kd.R_mono HO_191000.out (fun _ hk => ⟨hk.2.2.1, ⟨hk.2.2.2, hk.2.1⟩⟩)⟩, ⟨by (try simp only [hl195000_85]); (with_reducible repeat (first | apply Kd.R_alloc | apply Kd.R_drewN | apply Kd.R_drew)); exact Kd.R_mono HO_195000.out (fun _ hk => ⟨hk.2.2.1, ⟨hk.2.2.2, hk.2.1⟩⟩)⟩, ⟨by (try simp only [hl195000_85]); (with_reducible repeat (first | apply Kd.R_alloc | apply Kd.R_drewN | apply Kd.R_drew)); exact Kd.R_mono HO_205000.out (fun _ hk => ⟨hk.2.2.1, ⟨hk.2.2.2, hk.2.1⟩⟩)⟩, ⟨by (try simp only [hl195000_85]); (with_reducible repeat (first | apply Kd.R_alloc | apply Kd.R_drewN | apply Kd.R_drew)); exact Kd.R_mono HO225.out (fun _ hk => ⟨hk.2.1, ⟨hk.2.2.1, hk.2.2.2⟩⟩)⟩, ⟨by (try simp only [hl195000_85]); (with_reducible repeat (first | refine blk_drewN ?_ _ | refine blk_drew ?_ | refine blk_alloc ?_ _)); exact BK175.out⟩, ⟨by (try simp only [hl195000_85]); (with_reducible repeat (first | refine blk_drewN ?_ _ | refine blk_drew ?_ | refine blk_alloc ?_ _)); exact BK176.out⟩, ⟨by (try simp only [hl195000_85]); (with_reducible repeat (first | refine blk_drewN ?_ _ | refine blk_drew ?_ | refine blk_alloc ?_ _)); exact BK190.out⟩, ⟨by (try simp only [hl195000_85]); (with_reducible repeat (first | refine blk_drewN ?_ _ | refine blk_drew ?_ | refine blk_alloc ?_ _)); exact BK194.out⟩, ⟨by (try simp only [hl195000_85]); (with_reducible repeat (first | refine blk_drewN ?_ _ | refine blk_drew ?_ | refine blk_alloc ?_ _)); exact BK204.out⟩, ⟨by (try simp only [hl195000_85]); (with_reducible repeat (first | refine blk_drewN ?_ _ | refine blk_drew ?_ | refine blk_alloc ?_ _)); exact BK228.out⟩, ⟨q3_4⟩⟩
             ·rw [if_neg c167] at H
              have c167b0 : (t226 == t188) = false := beq_eq_false_iff_ne.mpr c167
              have c167b1 : (t226 != t188) = true := bne_iff_ne.mpr c167
              (first | rw [c167b0] | (simp only [i64_w, i32_w]; rw [c167b0]) | skip)
              have H' := Aside0.mk H
              clear H
              have hnb180 := NB228_175.out
              have hnc180 := NB175_228.out
              have hnb181 := NB228_176.out
              have hnc181 := NB176_228.out
              have hnb182 := NB228_190.out
              have hnc182 := NB190_228.out
              have hnb183 := NB228_194.out
              have hnc183 := NB194_228.out
              have hnb184 := NB228_204.out
              have hnc184 := NB204_228.out
              have hcz185_0 : w162.cell? ⟨gb228, 0, none⟩ = some (.slice none 0 0) := (blk_cell BK228.out 0).trans rfl
              have hfz185_0 := blk_frozen BK228.out 0
              have hnb186 := NB190_175.out
              have hnc186 := NB175_190.out
              have hnb187 := NB190_176.out
              have hnc187 := NB176_190.out
              have hnb188 := NB190_194.out
              have hnc188 := NB194_190.out
              have hnb189 := NB190_204.out
              have hnc189 := NB204_190.out
              have hcz190_0 : w162.cell? ⟨gb190, 0, none⟩ = some (.slice Ao29 t185.length co29) := (blk_cell BK190.out 0).trans rfl
              have hfz190_0 := blk_frozen BK190.out 0
              go_wp2_with (first | ((with_reducible refine gate_callee (f := 26) rfl ?_); refine goesL_ (some 105) rfl rfl Try.func26 q3_30 rfl #[.agg #[.slice Ao163 t223.length co163], .agg #[.slice Ao29 t185.length co29]] rfl q3_7 ?_; (with_reducible refine (laws_eqMem.calls kj85 _ _ t223 _ _ t185 true _ ?side1 ?side2 ?side3 ?side4 A165.out).mono ?_); (case side1 => exact q3_36); (case side2 => exact (Kd.R_reads' HO225.out).2.1); (case side3 => exact q3_35); (case side4 => exact (Kd.R_reads' HO_191000.out).2.1); rintro e w191 ⟨rfl, hb⟩; refine ⟨_, rfl, ?_⟩; have n0_ := Aside0.mk (Kd.R_below q3_22 hb); have n1_ := Aside0.mk (Kd.R_below q3_47 hb); have n2_ := Aside0.mk (Kd.R_below q3_48 hb); have n3_ := Aside0.mk (Kd.R_below q3_49 hb); have n4_ := Aside0.mk (Kd.R_below q3_23 hb); have n5_ := Aside0.mk (blk_below (g := gb175) (o := .cells #[.slice A0_0 l0_0.length c0_0] 31 (0, 0)) q3_58 hb); have n6_ := Aside0.mk (blk_below (g := gb176) (o := .cells #[.int .i64 a1_0, .int .i64 a1_1, .int .i64 a1_2, .int .i64 a1_3] 33 (0, 0)) q3_59 hb); have n7_ := Aside0.mk (blk_below (g := gb190) (o := .cells #[.slice Ao29 t185.length co29] 36 (0, 0)) (by (with_reducible repeat (first | refine blk_drewN ?_ _ | refine blk_drew ?_ | refine blk_alloc ?_ _)); refine blk_far ?_ NB190_228.out _; (with_reducible repeat (first | refine blk_drewN ?_ _ | refine blk_drew ?_ | refine blk_alloc ?_ _)); exact BK190.out) hb); have n8_ := Aside0.mk (blk_below (g := gb194) (o := .cells #[.slice Ao35 t211.length co35] 36 (0, 0)) (by (with_reducible repeat (first | refine blk_drewN ?_ _ | refine blk_drew ?_ | refine blk_alloc ?_ _)); refine blk_far ?_ NB194_228.out _; (with_reducible repeat (first | refine blk_drewN ?_ _ | refine blk_drew ?_ | refine blk_alloc ?_ _)); exact BK194.out) hb); have n9_ := Aside0.mk (blk_below (g := gb204) (o := .cells #[.slice Ao46 t199.length co46] 36 (0, 0)) (by (with_reducible repeat (first | refine blk_drewN ?_ _ | refine blk_drew ?_ | refine blk_alloc ?_ _)); refine blk_far ?_ NB204_228.out _; (with_reducible repeat (first | refine blk_drewN ?_ _ | refine blk_drew ?_ | refine blk_alloc ?_ _)); exact BK204.out) hb); have n10_ := Aside0.mk (blk_below (g := gb228) (o := .cells #[.slice Ao163 t223.length co163] 36 (0, 0)) q3_44 hb); have n11_ := Aside0.mk (below_step q3_4 hb); clear HO_191000; clear HO_195000; clear HO_205000; clear HO218; clear HO225; clear BK175; clear BK176; clear BK190; clear BK194; clear BK204; clear BK228; clear HB; have HO_191000 := n0_; have HO_195000 := n1_; have HO_205000 := n2_; have HO218 := n3_; have HO225 := n4_; have BK175 := n5_; have BK176 := n6_; have BK190 := n7_; have BK194 := n8_; have BK204 := n9_; have BK228 := n10_; have HB := n11_; clear n0_ n1_ n2_ n3_ n4_ n5_ n6_ n7_ n8_ n9_ n10_ n11_; (try clear hb); (try clear hb2); (try clear hk); (try clear hi)))
              go_meet
              case rel => exact ⟨_, (true), (by first | rfl | (simp; done) | (simp [*]; done)), H', ⟨by have := HJ15.out; have := HJ85.out; first | omega | exact Nat.le_refl _⟩, ⟨by (try simp only [hl195000_85]); (with_reducible repeat (first | apply Kd.R_alloc | apply Kd.R_drewN | apply Kd.R_drew)); exact Kd.R_mono HO_191000.out (fun _ hk => ⟨hk.2.2.1, ⟨hk.2.2.2, hk.2.1⟩⟩)⟩, ⟨by (try simp only [hl195000_85]); (with_reducible repeat (first | apply Kd.R_alloc | apply Kd.R_drewN | apply Kd.R_drew)); exact Kd.R_mono HO_195000.out (fun _ hk => ⟨hk.2.2.1, ⟨hk.2.2.2, hk.2.1⟩⟩)⟩, ⟨by (try simp only [hl195000_85]); (with_reducible repeat (first | apply Kd.R_alloc | apply Kd.R_drewN | apply Kd.R_drew)); exact Kd.R_mono HO_205000.out (fun _ hk => ⟨hk.2.2.1, ⟨hk.2.2.2, hk.2.1⟩⟩)⟩, ⟨by (try simp only [hl195000_85]); (with_reducible repeat (first | apply Kd.R_alloc | apply Kd.R_drewN | apply Kd.R_drew)); exact Kd.R_mono HO225.out (fun _ hk => ⟨hk.2.1, ⟨hk.2.2.1, hk.2.2.2⟩⟩)⟩, ⟨by (try simp only [hl195000_85]); (with_reducible repeat (first | refine blk_drewN ?_ _ | refine blk_drew ?_ | refine blk_alloc ?_ _)); exact BK175.out⟩, ⟨by (try simp only [hl195000_85]); (with_reducible repeat (first | refine blk_drewN ?_ _ | refine blk_drew ?_ | refine blk_alloc ?_ _)); exact BK176.out⟩, ⟨by (try simp only [hl195000_85]); (with_reducible repeat (first | refine blk_drewN ?_ _ | refine blk_drew ?_ | refine blk_alloc ?_ _)); exact BK190.out⟩, ⟨by (try simp only [hl195000_85]); (with_reducible repeat (first | refine blk_drewN ?_ _ | refine blk_drew ?_ | refine blk_alloc ?_ _)); exact BK194.out⟩, ⟨by (try simp only [hl195000_85]); (with_reducible repeat (first | refine blk_drewN ?_ _ | refine blk_drew ?_ | refine blk_alloc ?_ _)); exact BK204.out⟩, ⟨by (try simp only [hl195000_85]); (with_reducible repeat (first | refine blk_drewN ?_ _ | refine blk_drew ?_ | refine blk_alloc ?_ _)); exact BK228.out⟩, ⟨q3_4⟩⟩
            ·replace c166 := Bool.eq_false_iff.mpr c166
             subst c166
             have H1 : (laws_FnExactDo.j2 kj85 t213 true t214) = some r := by rw [if_neg (show ¬ (false = true) by decide)] at H; exact H
             clear H
             have H := H1
             clear H1
             have H' := Aside0.mk H
             clear H
             have hnb192 := NB228_175.out
             have hnc192 := NB175_228.out
             have hnb193 := NB228_176.out
             have hnc193 := NB176_228.out
             have hnb194 := NB228_190.out
             have hnc194 := NB190_228.out
             have hnb195 := NB228_194.out
             have hnc195 := NB194_228.out
             have hnb196 := NB228_204.out
             have hnc196 := NB204_228.out
             have hcz197_0 : w162.cell? ⟨gb228, 0, none⟩ = some (.slice none 0 0) := (blk_cell BK228.out 0).trans rfl
             have hfz197_0 := blk_frozen BK228.out 0
             have hnb198 := NB190_175.out
             have hnc198 := NB175_190.out
             have hnb199 := NB190_176.out
             have hnc199 := NB176_190.out
             have hnb200 := NB190_194.out
             have hnc200 := NB194_190.out
             have hnb201 := NB190_204.out
             have hnc201 := NB204_190.out
             have hcz202_0 : w162.cell? ⟨gb190, 0, none⟩ = some (.slice Ao29 t185.length co29) := (blk_cell BK190.out 0).trans rfl
             have hfz202_0 := blk_frozen BK190.out 0
             go_wp2_with (first | ((with_reducible refine gate_callee (f := 26) rfl ?_); refine goesL_ (some 105) rfl rfl Try.func26 q3_30 rfl #[.agg #[.slice Ao163 t223.length co163], .agg #[.slice Ao29 t185.length co29]] rfl q3_7 ?_; (with_reducible refine (laws_eqMem.calls kj85 _ _ t223 _ _ t185 false _ ?side1 ?side2 ?side3 ?side4 A165.out).mono ?_); (case side1 => exact q3_36); (case side2 => exact (Kd.R_reads' HO225.out).2.1); (case side3 => exact q3_35); (case side4 => exact (Kd.R_reads' HO_191000.out).2.1); rintro e w203 ⟨rfl, hb⟩; refine ⟨_, rfl, ?_⟩; have n0_ := Aside0.mk (Kd.R_below q3_22 hb); have n1_ := Aside0.mk (Kd.R_below q3_47 hb); have n2_ := Aside0.mk (Kd.R_below q3_48 hb); have n3_ := Aside0.mk (Kd.R_below q3_49 hb); have n4_ := Aside0.mk (Kd.R_below q3_23 hb); have n5_ := Aside0.mk (blk_below (g := gb175) (o := .cells #[.slice A0_0 l0_0.length c0_0] 31 (0, 0)) q3_58 hb); have n6_ := Aside0.mk (blk_below (g := gb176) (o := .cells #[.int .i64 a1_0, .int .i64 a1_1, .int .i64 a1_2, .int .i64 a1_3] 33 (0, 0)) q3_59 hb); have n7_ := Aside0.mk (blk_below (g := gb190) (o := .cells #[.slice Ao29 t185.length co29] 36 (0, 0)) (by (with_reducible repeat (first | refine blk_drewN ?_ _ | refine blk_drew ?_ | refine blk_alloc ?_ _)); refine blk_far ?_ NB190_228.out _; (with_reducible repeat (first | refine blk_drewN ?_ _ | refine blk_drew ?_ | refine blk_alloc ?_ _)); exact BK190.out) hb); have n8_ := Aside0.mk (blk_below (g := gb194) (o := .cells #[.slice Ao35 t211.length co35] 36 (0, 0)) (by (with_reducible repeat (first | refine blk_drewN ?_ _ | refine blk_drew ?_ | refine blk_alloc ?_ _)); refine blk_far ?_ NB194_228.out _; (with_reducible repeat (first | refine blk_drewN ?_ _ | refine blk_drew ?_ | refine blk_alloc ?_ _)); exact BK194.out) hb); have n9_ := Aside0.mk (blk_below (g := gb204) (o := .cells #[.slice Ao46 t199.length co46] 36 (0, 0)) (by (with_reducible repeat (first | refine blk_drewN ?_ _ | refine blk_drew ?_ | refine blk_alloc ?_ _)); refine blk_far ?_ NB204_228.out _; (with_reducible repeat (first | refine blk_drewN ?_ _ | refine blk_drew ?_ | refine blk_alloc ?_ _)); exact BK204.out) hb); have n10_ := Aside0.mk (blk_below (g := gb228) (o := .cells #[.slice Ao163 t223.length co163] 36 (0, 0)) q3_44 hb); have n11_ := Aside0.mk (below_step q3_4 hb); clear HO_191000; clear HO_195000; clear HO_205000; clear HO218; clear HO225; clear BK175; clear BK176; clear BK190; clear BK194; clear BK204; clear BK228; clear HB; have HO_191000 := n0_; have HO_195000 := n1_; have HO_205000 := n2_; have HO218 := n3_; have HO225 := n4_; have BK175 := n5_; have BK176 := n6_; have BK190 := n7_; have BK194 := n8_; have BK204 := n9_; have BK228 := n10_; have HB := n11_; clear n0_ n1_ n2_ n3_ n4_ n5_ n6_ n7_ n8_ n9_ n10_ n11_; (try clear hb); (try clear hb2); (try clear hk); (try clear hi)))
             go_meet
             case rel => exact ⟨_, (true), (by first | rfl | (simp; done) | (simp [*]; done)), H', ⟨by have := HJ15.out; have := HJ85.out; first | omega | exact Nat.le_refl _⟩, ⟨by (try simp only [hl195000_85]); (with_reducible repeat (first | apply Kd.R_alloc | apply Kd.R_drewN | apply Kd.R_drew)); exact Kd.R_mono HO_191000.out (fun _ hk => ⟨hk.2.2.1, ⟨hk.2.2.2, hk.2.1⟩⟩)⟩, ⟨by (try simp only [hl195000_85]); (with_reducible repeat (first | apply Kd.R_alloc | apply Kd.R_drewN | apply Kd.R_drew)); exact Kd.R_mono HO_195000.out (fun _ hk => ⟨hk.2.2.1, ⟨hk.2.2.2, hk.2.1⟩⟩)⟩, ⟨by (try simp only [hl195000_85]); (with_reducible repeat (first | apply Kd.R_alloc | apply Kd.R_drewN | apply Kd.R_drew)); exact Kd.R_mono HO_205000.out (fun _ hk => ⟨hk.2.2.1, ⟨hk.2.2.2, hk.2.1⟩⟩)⟩, ⟨by (try simp only [hl195000_85]); (with_reducible repeat (first | apply Kd.R_alloc | apply Kd.R_drewN | apply Kd.R_drew)); exact Kd.R_mono HO225.out (fun _ hk => ⟨hk.2.1, ⟨hk.2.2.1, hk.2.2.2⟩⟩)⟩, ⟨by (try simp only [hl195000_85]); (with_reducible repeat (first | refine blk_drewN ?_ _ | refine blk_drew ?_ | refine blk_alloc ?_ _)); exact BK175.out⟩, ⟨by (try simp only [hl195000_85]); (with_reducible repeat (first | refine blk_drewN ?_ _ | refine blk_drew ?_ | refine blk_alloc ?_ _)); exact BK176.out⟩, ⟨by (try simp only [hl195000_85]); (with_reducible repeat (first | refine blk_drewN ?_ _ | refine blk_drew ?_ | refine blk_alloc ?_ _)); exact BK190.out⟩, ⟨by (try simp only [hl195000_85]); (with_reducible repeat (first | refine blk_drewN ?_ _ | refine blk_drew ?_ | refine blk_alloc ?_ _)); exact BK194.out⟩, ⟨by (try simp only [hl195000_85]); (with_reducible repeat (first | refine blk_drewN ?_ _ | refine blk_drew ?_ | refine blk_alloc ?_ _)); exact BK204.out⟩, ⟨by (try simp only [hl195000_85]); (with_reducible repeat (first | refine blk_drewN ?_ _ | refine blk_drew ?_ | refine blk_alloc ?_ _)); exact BK228.out⟩, ⟨q3_4⟩⟩
           case rest =>
            clear HC147
            (try clear c1); (try clear c2); (try clear p2); (try clear c16); (try clear c17); (try clear c18); (try clear c19); (try clear c20); (try clear c23); (try clear c24); (try clear c26); (try clear c28); (try clear c166); (try clear c167); (try clear c167b0); (try clear c167b1); (try clear c168); (try clear c169); (try clear c170); (try clear c171); (try clear c172); (try clear c174); (try clear c175); (try clear c176); (try clear c177); (try clear c180); (try clear c181); (try clear c182); (try clear c183); (try clear c184); (try clear c186); (try clear c187); (try clear c188); (try clear c189); (try clear c192); (try clear c193); (try clear c194); (try clear c195); (try clear c196); (try clear c198); (try clear c199); (try clear c200); (try clear c201); (try clear hcz173_0); (try clear hcz178_0); (try clear hcz185_0); (try clear hcz190_0); (try clear hcz197_0); (try clear hcz202_0); (try clear hfz173_0); (try clear hfz178_0); (try clear hfz185_0); (try clear hfz190_0); (try clear hfz197_0); (try clear hfz202_0)
            obtain ⟨kq, x116_146, rfl, HA, HJ146, HO_191000, HO_195000, HO_205000, HO_229000, BK175, BK176, BK190, BK194, BK204, BK228, HB⟩ := hcut
            have hl205000_146 := (Kd.R_reads' HO_205000.out).1
            rw [hl205000_146] at HO_205000
            (try simp only [hl205000_146])
            (try simp only [hl205000_146] at BK175)
            (try simp only [hl205000_146] at BK176)
            (try simp only [hl205000_146] at BK190)
            (try simp only [hl205000_146] at BK194)
            (try simp only [hl205000_146] at BK204)
            (try simp only [hl205000_146] at BK228)
            (try simp only [hl205000_146] at HO_191000)
            (try simp only [hl205000_146] at HO_195000)
            (try simp only [hl205000_146] at HO_229000)
            cases kq with
            | zero => exact absurd HA.out (by simp [laws_FnExactDo.j2])
            | succ kj146 =>
             have H := HA.out
             clear HA
             simp only [laws_FnExactDo.j2] at H
             by_cases c204 : x116_146 = true
             ·subst c204
              have H1 : (some false) = some r := by rw [if_pos rfl] at H; exact H
              clear H
              have H := H1
              clear H1
              obtain rfl := Option.some.inj H
              go_wp2
              go_ret
              exact ⟨q3_31, q3_4⟩
             ·replace c204 := Bool.eq_false_iff.mpr c204
              subst c204
              have H1 : ((laws_heldMem.f kj146 t214 1).bind fun t230 => (if t230 < 0 then (some false) else (if t230 = t213 then (some true) else (some false)))) = some r := by rw [if_neg (show ¬ (false = true) by decide)] at H; exact H
              clear H
              have H := H1
              clear H1
              replace H := Option.bind_eq_some_iff.mp H
              obtain ⟨t230, A2050, H⟩ := H
              replace H : (if t230 < 0 then (some false) else (if t230 = t213 then (some true) else (some false))) = some r := H
              have A205 := Aside0.mk A2050
              clear A2050
              by_cases c206 : t230 < 0
              ·rw [if_pos c206] at H
               have c206b0 : decide (t230 < 0) = true := decide_eq_true c206
               clear c206
               obtain rfl := Option.some.inj H
               have hnb207 := NB204_175.out
               have hnc207 := NB175_204.out
               have hnb208 := NB204_176.out
               have hnc208 := NB176_204.out
               have hnb209 := NB204_190.out
               have hnc209 := NB190_204.out
               have hnb210 := NB204_194.out
               have hnc210 := NB194_204.out
               have hnb211 := NB204_228.out
               have hnc211 := NB228_204.out
               have hcz212_0 : wc.cell? ⟨gb204, 0, none⟩ = some (.slice Ao46 t214.length co46) := (blk_cell BK204.out 0).trans rfl
               have hfz212_0 := blk_frozen BK204.out 0
               go_wp2_with (first | ((with_reducible refine gate_callee (f := 30) rfl ?_); refine goesL_ (some 119) rfl rfl Try.func30 q3_30 rfl #[.agg #[.slice Ao46 t214.length co46], .int .i64 1] rfl q3_7 ?_; (with_reducible refine (laws_heldMem.calls kj146 _ _ t214 1 t230 _ ?side1 ?side2 A205.out).mono ?_); (case side1 => exact q3_19); (case side2 => exact (Kd.R_reads' HO_205000.out).2.1); rintro e w213 ⟨rfl, hb⟩; refine ⟨_, rfl, ?_⟩; have n0_ := Aside0.mk (Kd.R_below q3_10 hb); have n1_ := Aside0.mk (Kd.R_below q3_11 hb); have n2_ := Aside0.mk (Kd.R_below q3_12 hb); have n3_ := Aside0.mk (Kd.R_below (by (with_reducible repeat (first | apply Kd.R_alloc | apply Kd.R_drewN | apply Kd.R_drew)); exact HO_229000.out) hb); have n4_ := Aside0.mk (blk_below (g := gb175) (o := .cells #[.slice A0_0 l0_0.length c0_0] 31 (0, 0)) q3_1 hb); have n5_ := Aside0.mk (blk_below (g := gb176) (o := .cells #[.int .i64 a1_0, .int .i64 a1_1, .int .i64 a1_2, .int .i64 a1_3] 33 (0, 0)) q3_2 hb); have n6_ := Aside0.mk (blk_below (g := gb190) (o := .cells #[.slice Ao29 t185.length co29] 36 (0, 0)) q3_3 hb); have n7_ := Aside0.mk (blk_below (g := gb194) (o := .cells #[.slice Ao35 t211.length co35] 36 (0, 0)) q3_5 hb); have n8_ := Aside0.mk (blk_below (g := gb204) (o := .cells #[.slice Ao46 t214.length co46] 36 (0, 0)) q3_6 hb); have n9_ := Aside0.mk (blk_below (g := gb228) (o := .cells #[.slice Ao163 t223.length co163] 36 (0, 0)) q3_20 hb); have n10_ := Aside0.mk (below_step q3_4 hb); clear HO_191000; clear HO_195000; clear HO_205000; clear HO_229000; clear BK175; clear BK176; clear BK190; clear BK194; clear BK204; clear BK228; clear HB; have HO_191000 := n0_; have HO_195000 := n1_; have HO_205000 := n2_; have HO_229000 := n3_; have BK175 := n4_; have BK176 := n5_; have BK190 := n6_; have BK194 := n7_; have BK204 := n8_; have BK228 := n9_; have HB := n10_; clear n0_ n1_ n2_ n3_ n4_ n5_ n6_ n7_ n8_ n9_ n10_; (try clear hb); (try clear hb2); (try clear hk); (try clear hi)))
               go_ret
               exact ⟨q3_31, q3_4⟩
              ·rw [if_neg c206] at H
               have c206b0 : decide (t230 < 0) = false := decide_eq_false c206
               clear c206
               by_cases c214 : t230 = t213
               ·rw [if_pos c214] at H
                have c214b0 : (t230 == t213) = true := beq_iff_eq.mpr c214
                have c214b1 : (t230 != t213) = false := bne_eq_false_iff_eq.mpr c214
                clear c214
                obtain rfl := Option.some.inj H
                have hnb215 := NB204_175.out
                have hnc215 := NB175_204.out
                have hnb216 := NB204_176.out
                have hnc216 := NB176_204.out
                have hnb217 := NB204_190.out
                have hnc217 := NB190_204.out
                have hnb218 := NB204_194.out
                have hnc218 := NB194_204.out
                have hnb219 := NB204_228.out
                have hnc219 := NB228_204.out
                have hcz220_0 : wc.cell? ⟨gb204, 0, none⟩ = some (.slice Ao46 t214.length co46) := (blk_cell BK204.out 0).trans rfl
                have hfz220_0 := blk_frozen BK204.out 0
                go_wp2_with (first | ((with_reducible refine gate_callee (f := 30) rfl ?_); refine goesL_ (some 119) rfl rfl Try.func30 q3_30 rfl #[.agg #[.slice Ao46 t214.length co46], .int .i64 1] rfl q3_7 ?_; (with_reducible refine (laws_heldMem.calls kj146 _ _ t214 1 t230 _ ?side1 ?side2 A205.out).mono ?_); (case side1 => exact q3_19); (case side2 => exact (Kd.R_reads' HO_205000.out).2.1); rintro e w221 ⟨rfl, hb⟩; refine ⟨_, rfl, ?_⟩; have n0_ := Aside0.mk (Kd.R_below q3_10 hb); have n1_ := Aside0.mk (Kd.R_below q3_11 hb); have n2_ := Aside0.mk (Kd.R_below q3_12 hb); have n3_ := Aside0.mk (Kd.R_below (by (with_reducible repeat (first | apply Kd.R_alloc | apply Kd.R_drewN | apply Kd.R_drew)); exact HO_229000.out) hb); have n4_ := Aside0.mk (blk_below (g := gb175) (o := .cells #[.slice A0_0 l0_0.length c0_0] 31 (0, 0)) q3_1 hb); have n5_ := Aside0.mk (blk_below (g := gb176) (o := .cells #[.int .i64 a1_0, .int .i64 a1_1, .int .i64 a1_2, .int .i64 a1_3] 33 (0, 0)) q3_2 hb); have n6_ := Aside0.mk (blk_below (g := gb190) (o := .cells #[.slice Ao29 t185.length co29] 36 (0, 0)) q3_3 hb); have n7_ := Aside0.mk (blk_below (g := gb194) (o := .cells #[.slice Ao35 t211.length co35] 36 (0, 0)) q3_5 hb); have n8_ := Aside0.mk (blk_below (g := gb204) (o := .cells #[.slice Ao46 t214.length co46] 36 (0, 0)) q3_6 hb); have n9_ := Aside0.mk (blk_below (g := gb228) (o := .cells #[.slice Ao163 t223.length co163] 36 (0, 0)) q3_20 hb); have n10_ := Aside0.mk (below_step q3_4 hb); clear HO_191000; clear HO_195000; clear HO_205000; clear HO_229000; clear BK175; clear BK176; clear BK190; clear BK194; clear BK204; clear BK228; clear HB; have HO_191000 := n0_; have HO_195000 := n1_; have HO_205000 := n2_; have HO_229000 := n3_; have BK175 := n4_; have BK176 := n5_; have BK190 := n6_; have BK194 := n7_; have BK204 := n8_; have BK228 := n9_; have HB := n10_; clear n0_ n1_ n2_ n3_ n4_ n5_ n6_ n7_ n8_ n9_ n10_; (try clear hb); (try clear hb2); (try clear hk); (try clear hi)))
                go_ret
                exact ⟨q3_31, q3_4⟩
               ·rw [if_neg c214] at H
                have c214b0 : (t230 == t213) = false := beq_eq_false_iff_ne.mpr c214
                have c214b1 : (t230 != t213) = true := bne_iff_ne.mpr c214
                obtain rfl := Option.some.inj H
                have hnb222 := NB204_175.out
                have hnc222 := NB175_204.out
                have hnb223 := NB204_176.out
                have hnc223 := NB176_204.out
                have hnb224 := NB204_190.out
                have hnc224 := NB190_204.out
                have hnb225 := NB204_194.out
                have hnc225 := NB194_204.out
                have hnb226 := NB204_228.out
                have hnc226 := NB228_204.out
                have hcz227_0 : wc.cell? ⟨gb204, 0, none⟩ = some (.slice Ao46 t214.length co46) := (blk_cell BK204.out 0).trans rfl
                have hfz227_0 := blk_frozen BK204.out 0
                go_wp2_with (first | ((with_reducible refine gate_callee (f := 30) rfl ?_); refine goesL_ (some 119) rfl rfl Try.func30 q3_30 rfl #[.agg #[.slice Ao46 t214.length co46], .int .i64 1] rfl q3_7 ?_; (with_reducible refine (laws_heldMem.calls kj146 _ _ t214 1 t230 _ ?side1 ?side2 A205.out).mono ?_); (case side1 => exact q3_19); (case side2 => exact (Kd.R_reads' HO_205000.out).2.1); rintro e w228 ⟨rfl, hb⟩; refine ⟨_, rfl, ?_⟩; have n0_ := Aside0.mk (Kd.R_below q3_10 hb); have n1_ := Aside0.mk (Kd.R_below q3_11 hb); have n2_ := Aside0.mk (Kd.R_below q3_12 hb); have n3_ := Aside0.mk (Kd.R_below (by (with_reducible repeat (first | apply Kd.R_alloc | apply Kd.R_drewN | apply Kd.R_drew)); exact HO_229000.out) hb); have n4_ := Aside0.mk (blk_below (g := gb175) (o := .cells #[.slice A0_0 l0_0.length c0_0] 31 (0, 0)) q3_1 hb); have n5_ := Aside0.mk (blk_below (g := gb176) (o := .cells #[.int .i64 a1_0, .int .i64 a1_1, .int .i64 a1_2, .int .i64 a1_3] 33 (0, 0)) q3_2 hb); have n6_ := Aside0.mk (blk_below (g := gb190) (o := .cells #[.slice Ao29 t185.length co29] 36 (0, 0)) q3_3 hb); have n7_ := Aside0.mk (blk_below (g := gb194) (o := .cells #[.slice Ao35 t211.length co35] 36 (0, 0)) q3_5 hb); have n8_ := Aside0.mk (blk_below (g := gb204) (o := .cells #[.slice Ao46 t214.length co46] 36 (0, 0)) q3_6 hb); have n9_ := Aside0.mk (blk_below (g := gb228) (o := .cells #[.slice Ao163 t223.length co163] 36 (0, 0)) q3_20 hb); have n10_ := Aside0.mk (below_step q3_4 hb); clear HO_191000; clear HO_195000; clear HO_205000; clear HO_229000; clear BK175; clear BK176; clear BK190; clear BK194; clear BK204; clear BK228; clear HB; have HO_191000 := n0_; have HO_195000 := n1_; have HO_205000 := n2_; have HO_229000 := n3_; have BK175 := n4_; have BK176 := n5_; have BK190 := n6_; have BK194 := n7_; have BK204 := n8_; have BK228 := n9_; have HB := n10_; clear n0_ n1_ n2_ n3_ n4_ n5_ n6_ n7_ n8_ n9_ n10_; (try clear hb); (try clear hb2); (try clear hk); (try clear hi)))
                go_ret
                exact ⟨q3_31, q3_4⟩
          ·rw [if_neg c143] at H
           have c143b0 : (t215 == t213) = false := beq_eq_false_iff_ne.mpr c143
           have c143b1 : (t215 != t213) = true := bne_iff_ne.mpr c143
           obtain rfl := Option.some.inj H
           have hnb229 := NB204_175.out
           have hnc229 := NB175_204.out
           have hnb230 := NB204_176.out
           have hnc230 := NB176_204.out
           have hnb231 := NB204_190.out
           have hnc231 := NB190_204.out
           have hnb232 := NB204_194.out
           have hnc232 := NB194_204.out
           have hcz233_0 : wc.cell? ⟨gb204, 0, none⟩ = some (.slice Ao46 t199.length co46) := (blk_cell BK204.out 0).trans rfl
           have hfz233_0 := blk_frozen BK204.out 0
           go_wp2_with (first | ((with_reducible refine gate_callee (f := 29) rfl ?_); refine goesL_ (some 85) rfl rfl Try.func29 q3_30 rfl #[.agg #[.slice Ao46 t199.length co46], .int .i64 1] rfl q3_7 ?_; (with_reducible refine (laws_markMem.calls kj85 (fun k_ => some k_ = (.slice Ao46 t199.length co46 : Value).ownBlock) (.slice Ao46 t199.length co46) t199 1 t213 t214 w _ ?side1 ?side2 A132.out).mono ?_); (case side1 => exact q3_0); (case side2 => exact Kd.R_tight rfl HO_205000.out); rintro e w234 ⟨rfl, hy0, hb, hkp⟩; refine ⟨_, rfl, ?_⟩; have n0_ := Aside0.mk (Kd.R_mono (ok' := fun k_ => some k_ ≠ (.slice Ao35 t211.length co35 : Value).ownBlock ∧ some k_ ≠ (.slice Ao46 t199.length co46 : Value).ownBlock) (Kd.R_keptB (HO_191000.out) hkp (fun k_ hk_ hs_ => (hk_.2) hs_)) (fun k_ hk_ => ⟨hk_.1.1, hk_.1.2⟩)); have n1_ := Aside0.mk (Kd.R_mono (ok' := fun k_ => some k_ ≠ (.slice Ao29 t185.length co29 : Value).ownBlock ∧ some k_ ≠ (.slice Ao46 t199.length co46 : Value).ownBlock) (Kd.R_keptB (HO_195000.out) hkp (fun k_ hk_ hs_ => (hk_.2) hs_)) (fun k_ hk_ => ⟨hk_.1.1, hk_.1.2⟩)); have n2_ := Aside0.mk (Kd.R_reok rfl hy0 (fun k_ e_ => HO_205000.out.1 k_ e_)); have n3_ := Aside0.mk (blk_kept q3_1 hkp (fun hs_ => (fun e_ => (Kd.R_ne HO_205000.out BK175.out (by decide)) e_) hs_)); have n4_ := Aside0.mk (blk_kept q3_2 hkp (fun hs_ => (fun e_ => (Kd.R_ne HO_205000.out BK176.out (by decide)) e_) hs_)); have n5_ := Aside0.mk (blk_kept q3_3 hkp (fun hs_ => (fun e_ => (Kd.R_ne HO_205000.out BK190.out (by decide)) e_) hs_)); have n6_ := Aside0.mk (blk_kept q3_5 hkp (fun hs_ => (fun e_ => (Kd.R_ne HO_205000.out BK194.out (by decide)) e_) hs_)); have n7_ := Aside0.mk (blk_kept q3_6 hkp (fun hs_ => (fun e_ => (Kd.R_ne HO_205000.out BK204.out (by decide)) e_) hs_)); have n8_ := Aside0.mk (hb); clear HO_191000; clear HO_195000; clear HO_205000; clear BK175; clear BK176; clear BK190; clear BK194; clear BK204; clear HB; have HO_191000 := n0_; have HO_195000 := n1_; have HO_205000 := n2_; have BK175 := n3_; have BK176 := n4_; have BK190 := n5_; have BK194 := n6_; have BK204 := n7_; have HB := n8_; clear n0_ n1_ n2_ n3_ n4_ n5_ n6_ n7_ n8_; (try clear hb); (try clear hkp); (try clear hy0); have hcz235_0 : w234.cell? ⟨gb204, 0, none⟩ = some (.slice Ao46 t199.length co46) := (blk_cell BK204.out 0).trans rfl; have hfz235_0 := blk_frozen BK204.out 0) | ((with_reducible refine gate_callee (f := 30) rfl ?_); refine goesL_ (some 88) rfl rfl Try.func30 q3_30 rfl #[.agg #[.slice Ao46 t214.length co46], .int .i64 1] rfl (by (try simp only [List.map_toArray, List.map_cons, List.map_nil]); first | done | (rw [show t214.length = t199.length from (Kd.R_reads' HO_205000.out).1.symm] <;> rfl) | rfl | (simp only [List.length_drop, List.length_take]; rfl)) ?_; (with_reducible refine (laws_heldMem.calls kj85 _ _ t214 1 t215 _ ?side1 ?side2 A133.out).mono ?_); (case side1 => exact q3_19); (case side2 => rw [show t214.length = t199.length from (Kd.R_reads' HO_205000.out).1.symm]; exact (Kd.R_reads' HO_205000.out).2.1); rintro e w236 ⟨rfl, hb⟩; refine ⟨_, rfl, ?_⟩; have n0_ := Aside0.mk (Kd.R_below q3_10 hb); have n1_ := Aside0.mk (Kd.R_below q3_11 hb); have n2_ := Aside0.mk (Kd.R_below q3_12 hb); have n3_ := Aside0.mk (blk_below (g := gb175) (o := .cells #[.slice A0_0 l0_0.length c0_0] 31 (0, 0)) q3_1 hb); have n4_ := Aside0.mk (blk_below (g := gb176) (o := .cells #[.int .i64 a1_0, .int .i64 a1_1, .int .i64 a1_2, .int .i64 a1_3] 33 (0, 0)) q3_2 hb); have n5_ := Aside0.mk (blk_below (g := gb190) (o := .cells #[.slice Ao29 t185.length co29] 36 (0, 0)) q3_3 hb); have n6_ := Aside0.mk (blk_below (g := gb194) (o := .cells #[.slice Ao35 t211.length co35] 36 (0, 0)) q3_5 hb); have n7_ := Aside0.mk (blk_below (g := gb204) (o := .cells #[.slice Ao46 t199.length co46] 36 (0, 0)) q3_6 hb); have n8_ := Aside0.mk (below_step q3_0 hb); clear HO_191000; clear HO_195000; clear HO_205000; clear BK175; clear BK176; clear BK190; clear BK194; clear BK204; clear HB; have HO_191000 := n0_; have HO_195000 := n1_; have HO_205000 := n2_; have BK175 := n3_; have BK176 := n4_; have BK190 := n5_; have BK194 := n6_; have BK204 := n7_; have HB := n8_; clear n0_ n1_ n2_ n3_ n4_ n5_ n6_ n7_ n8_; (try clear hb); (try clear hb2); (try clear hk); (try clear hi)))
           go_ret
           exact ⟨q3_31, q3_0⟩
     ·replace c84 := Bool.eq_false_iff.mpr c84
      subst c84
      have H1 : (some false) = some r := by rw [if_neg (show ¬ (false = true) by decide)] at H; exact H
      clear H
      have H := H1
      clear H1
      obtain rfl := Option.some.inj H
      try go_wp2
      have n0_ := Aside0.mk (Kd.R_drew HO_191000.out)
      have n1_ := Aside0.mk (Kd.R_drew HO_195000.out)
      have n2_ := Aside0.mk (Kd.R_drew HO_205000.out)
      have n3_ := Aside0.mk (blk_drew BK175.out)
      have n4_ := Aside0.mk (blk_drew BK176.out)
      have n5_ := Aside0.mk (blk_drew BK190.out)
      have n6_ := Aside0.mk (blk_drew BK194.out)
      have n7_ := Aside0.mk (blk_drew BK204.out)
      have n8_ := Aside0.mk (below_drew1 HB.out)
      clear HO_191000
      clear HO_195000
      clear HO_205000
      clear BK175
      clear BK176
      clear BK190
      clear BK194
      clear BK204
      clear HB
      have HO_191000 := n0_
      have HO_195000 := n1_
      have HO_205000 := n2_
      have BK175 := n3_
      have BK176 := n4_
      have BK190 := n5_
      have BK194 := n6_
      have BK204 := n7_
      have HB := n8_
      clear n0_ n1_ n2_ n3_ n4_ n5_ n6_ n7_ n8_
      refine start_ (n := 5) (S := fun w' => w'.cell? ⟨gb194, 0, none⟩ = some (.slice Ao35 t191.length co35) ∧ w'.cell? ⟨gb175, 0, none⟩ = some (.slice A0_0 l0_0.length c0_0)) (ds := []) #[F,F,F,F,F] q3_30 rfl rfl ⟨(blk_cell BK194.out 0).trans rfl, (blk_cell BK175.out 0).trans rfl⟩ (fun hHeld => ?_)
      generalize wc.drew = w237 at HO_191000 HO_195000 HO_205000 BK175 BK176 BK190 BK194 BK204 HB hHeld ⊢
      refine take_ (i := 0) (N := some 57) (v := ?_) (a' := ?_) #[T,F,F,F,F] rfl rfl q3_30 (fun _ _ _ h => h) (Or.inl ⟨by rfl, ?_⟩) hHeld ?_ ?_
      rotate_left
      ·rintro w' ⟨s0, s1⟩
       go_simp
       with_reducible rfl
      rotate_left
      ·simp only [Act.put, List.setIfInBounds_toArray, List.set_cons_zero, List.set_cons_succ, i64_w, i32_w]
       rfl
      refine take_ (i := 1) (N := some 58) (v := ?_) (a' := ?_) #[T,T,F,F,F] rfl rfl q3_30 (fun _ _ _ h => h) (Or.inl ⟨by rfl, ?_⟩) hHeld ?_ ?_
      rotate_left
      ·rintro w' ⟨s0, s1⟩
       go_simp
       with_reducible rfl
      rotate_left
      ·simp only [Act.put, List.setIfInBounds_toArray, List.set_cons_zero, List.set_cons_succ, i64_w, i32_w]
       rfl
      refine one_ (i := 2) (N := some 59) #[T,T,T,F,F] rfl rfl q3_30 (by decide) (fun K hK => ?_)
      refine goes_ Try.func23 q3_30 rfl #[.agg #[.slice A0_0 l0_0.length c0_0]] (by rfl) rfl rfl q3_7 ?_
      with_reducible refine (laws_toMem.calls kj15 _ _ l0_0 t206 _ ?side1 ?side2 A82.out).mono ?_
      (case side1 => exact q3_27)
      (case side2 => exact HC0_0.out)
      rintro e w238 ⟨v207, rfl, ho0, hb⟩
      refine ⟨_, rfl, ?_⟩
      have n0_ := Aside0.mk (Kd.R_elder' q3_10 (Kd.R_base ho0) hb)
      have n1_ := Aside0.mk (Kd.R_elder' q3_11 (Kd.R_base ho0) hb)
      have n2_ := Aside0.mk (Kd.R_elder' q3_12 (Kd.R_base ho0) hb)
      have n3_ := Aside0.mk (Kd.R_lower (Kd.R_new' (Kd.R_new' (Kd.R_new' ho0 (Kd.R_lt q3_10)) (Kd.R_lt q3_11)) (Kd.R_lt q3_12)) (below_size q3_0))
      have n4_ := Aside0.mk (blk_below (g := gb175) (o := .cells #[.slice A0_0 l0_0.length c0_0] 31 (0, 0)) q3_1 hb)
      have n5_ := Aside0.mk (blk_below (g := gb176) (o := .cells #[.int .i64 a1_0, .int .i64 a1_1, .int .i64 a1_2, .int .i64 a1_3] 33 (0, 0)) q3_2 hb)
      have n6_ := Aside0.mk (blk_below (g := gb190) (o := .cells #[.slice Ao29 t185.length co29] 36 (0, 0)) q3_3 hb)
      have n7_ := Aside0.mk (blk_below (g := gb194) (o := .cells #[.slice Ao35 t191.length co35] 36 (0, 0)) q3_5 hb)
      have n8_ := Aside0.mk (blk_below (g := gb204) (o := .cells #[.slice Ao46 t199.length co46] 36 (0, 0)) q3_6 hb)
      have n9_ := Aside0.mk (below_step q3_0 hb)
      clear HO_191000
      clear HO_195000
      clear HO_205000
      clear BK175
      clear BK176
      clear BK190
      clear BK194
      clear BK204
      clear HB
      have HO_191000 := n0_
      have HO_195000 := n1_
      have HO_205000 := n2_
      have HO208 := n3_
      have BK175 := n4_
      have BK176 := n5_
      have BK190 := n6_
      have BK194 := n7_
      have BK204 := n8_
      have HB := n9_
      clear n0_ n1_ n2_ n3_ n4_ n5_ n6_ n7_ n8_ n9_
      (try clear hb)
      (try clear hb2)
      (try clear hk)
      (try clear hi)
      (try clear ho0)
      obtain ⟨Ao239, co239, eo239⟩ := Kd.R_slice HO208.out
      (first | subst eo239 | (injection eo239 with f1_ f2_ f3_; have f4_ := f1_.symm; have f5_ := f3_.symm; clear f1_ f2_ f3_; subst f4_; subst f5_))
      refine hK.out _ _ ⟨(blk_cell BK194.out 0).trans rfl, (blk_cell BK175.out 0).trans rfl⟩ (fun hHeld => ?_)
      clear hK K
      refine norm_ (a' := ?_) ?_ ?_
      rotate_left
      ·show Act.put _ (some 59) _ = _
       simp only [Act.put, List.setIfInBounds_toArray, List.set_cons_zero, List.set_cons_succ, i64_w, i32_w]
       rfl
      refine one_ (i := 3) (N := some 60) #[T,T,T,T,F] rfl rfl q3_30 (by decide) (fun K hK => ?_)
      refine goes_ Try.func26 q3_30 rfl #[.agg #[.slice Ao35 t191.length co35], .agg #[.slice Ao239 t206.length co239]] (by rfl) rfl rfl q3_7 ?_
      with_reducible refine (laws_eqMem.calls kj15 _ _ t191 _ _ t206 false _ ?side1 ?side2 ?side3 ?side4 A83.out).mono ?_
      (case side1 => repeat (first | exact (Kd.R_reads' HO_195000.out).2.2 | (with_reducible refine Kd.C_alloc ?_ _) | (with_reducible refine Kd.C_drewN ?_ _) | (with_reducible refine Kd.C_drew ?_)))
      (case side2 => exact (Kd.R_reads' HO_195000.out).2.1)
      (case side3 => repeat (first | exact (Kd.R_reads' HO208.out).2.2 | (with_reducible refine Kd.C_alloc ?_ _) | (with_reducible refine Kd.C_drewN ?_ _) | (with_reducible refine Kd.C_drew ?_)))
      (case side4 => exact (Kd.R_reads' HO208.out).2.1)
      rintro e w240 ⟨rfl, hb⟩
      refine ⟨_, rfl, ?_⟩
      have n0_ := Aside0.mk (Kd.R_below q3_10 hb)
      have n1_ := Aside0.mk (Kd.R_below q3_11 hb)
      have n2_ := Aside0.mk (Kd.R_below q3_12 hb)
      have n3_ := Aside0.mk (Kd.R_below (by (with_reducible repeat (first | apply Kd.R_alloc | apply Kd.R_drewN | apply Kd.R_drew)); exact HO208.out) hb)
      have n4_ := Aside0.mk (blk_below (g := gb175) (o := .cells #[.slice A0_0 l0_0.length c0_0] 31 (0, 0)) q3_1 hb)
      have n5_ := Aside0.mk (blk_below (g := gb176) (o := .cells #[.int .i64 a1_0, .int .i64 a1_1, .int .i64 a1_2, .int .i64 a1_3] 33 (0, 0)) q3_2 hb)
      have n6_ := Aside0.mk (blk_below (g := gb190) (o := .cells #[.slice Ao29 t185.length co29] 36 (0, 0)) q3_3 hb)
      have n7_ := Aside0.mk (blk_below (g := gb194) (o := .cells #[.slice Ao35 t191.length co35] 36 (0, 0)) q3_5 hb)
      have n8_ := Aside0.mk (blk_below (g := gb204) (o := .cells #[.slice Ao46 t199.length co46] 36 (0, 0)) q3_6 hb)
      have n9_ := Aside0.mk (below_step q3_0 hb)
      clear HO_191000
      clear HO_195000
      clear HO_205000
      clear HO208
      clear BK175
      clear BK176
      clear BK190
      clear BK194
      clear BK204
      clear HB
      have HO_191000 := n0_
      have HO_195000 := n1_
      have HO_205000 := n2_
      have HO208 := n3_
      have BK175 := n4_
      have BK176 := n5_
      have BK190 := n6_
      have BK194 := n7_
      have BK204 := n8_
      have HB := n9_
      clear n0_ n1_ n2_ n3_ n4_ n5_ n6_ n7_ n8_ n9_
      (try clear hb)
      (try clear hb2)
      (try clear hk)
      (try clear hi)
      refine hK.out _ _ ⟨(blk_cell BK194.out 0).trans rfl, (blk_cell BK175.out 0).trans rfl⟩ (fun hHeld => ?_)
      clear hK K
      refine norm_ (a' := ?_) ?_ ?_
      rotate_left
      ·show Act.put _ (some 60) _ = _
       simp only [Act.put, List.setIfInBounds_toArray, List.set_cons_zero, List.set_cons_succ, i64_w, i32_w]
       rfl
      refine pure_ (i := 4) (N := some 61) (v := ?_) (a' := ?_) #[T,T,T,T,T] rfl rfl q3_30 (fun _ _ _ h => h) (Or.inl ⟨by rfl, ?_⟩) ?_ ?_
      rotate_left
      ·intro w'
       go_simp
       with_reducible rfl
      rotate_left
      ·simp only [Act.put, List.setIfInBounds_toArray, List.set_cons_zero, List.set_cons_succ, i64_w, i32_w]
       rfl
      refine done_ q3_30 ?_
      try go_wp2
      go_ret
      exact ⟨q3_31, q3_0⟩

/-! What the arguments hold: each number fits, each length is one. -/
/-- THE ONE PURE STATEMENT of laws_FnExactDo. -/
def laws_FnExactDo.Pure : Prop := ∀ (l0_0 : List Int) (a1_0 : Int) (a1_1 : Int) (a1_2 : Int) (a1_3 : Int), ((l0_0.length ≤ maxLen ∧ ∀ x ∈ l0_0, (Lit.int .i64 x).wf = true)) → ((Lit.int .i64 a1_0).wf = true ∧ (Lit.int .i64 a1_1).wf = true ∧ (Lit.int .i64 a1_2).wf = true ∧ (Lit.int .i64 a1_3).wf = true) → ∃ k, laws_FnExactDo.f k l0_0 a1_0 a1_1 a1_2 a1_3 = some true

end Go.Proofs.Ytgmnnkodcmmfdaa.PFnExactDo
