-- PRINTED BY print.sh 35421559b90ae4d0a3588c463048766b98c2df88dd9212a6774a882060cdf62d: not written by this session
import Derived.Test.YtlnjhgjjfplodaaPFnExactAgesNewx0
import Derived.Test.YtlnjhgjjfplodaaPFnExactAgesNewx1
import Derived.Test.YtlnjhgjjfplodaaPFnExactAgesNewx2
namespace Go.Proofs.Ytlnjhgjjfplodaa.PFnExactAgesNew
open Go.RowKit Go.Proofs.YtlnjhgjjfplodaaW.PrintWords Go.Proofs.YtlnjhgjjfplodaaW.PrintLast Go.Proofs.YtlnjhgjjfplodaaW.PrintMore
attribute [local go_sem] max2_int min2_int max_two min_two max_three min_three max_four min_four   -- for this text's walks alone
set_option linter.unusedVariables false
set_option linter.unusedSimpArgs false

/-! ### laws_FnExactAgesNew: function 4 -/
mutual
def laws_FnExactAgesNew.j0 : Nat → Int → Bool → Bool → Int → List Int → List (S48) → Int → List Int → List (S48) → Option (Bool)
  | 0, _, _, _, _, _, _, _, _, _ => none
  | k + 1, x0, x4, x29, x146000, x146001, x146002, x155000, x155001, x155002 => if x29 = true then (some false) else ((laws_markAges.f k x155000 x155001 x155002 1).bind fun bt156 => ((laws_heldAges.f k x155000 bt156.2.1 bt156.2.2 1).bind fun t159 => (if t159 < 0 then (some false) else (if t159 = bt156.1 then ((impl_AgesNew.f k x0).bind fun bt160 => ((laws_eqAges.f k bt160.1 bt160.2.1 bt160.2.2.1 x146000 x146001 x146002).bind fun t169 => (if t169 = true then (laws_FnExactAgesNew.j1 k bt156.1 (bt160.2.2.2 != x4) x155000 bt156.2.1 bt156.2.2) else (laws_FnExactAgesNew.j1 k bt156.1 true x155000 bt156.2.1 bt156.2.2)))) else (some false)))))
def laws_FnExactAgesNew.j1 : Nat → Int → Bool → Int → List Int → List (S48) → Option (Bool)
  | 0, _, _, _, _, _ => none
  | k + 1, x7, x54, x155000, x155001, x155002 => if x54 = true then (some false) else ((laws_heldAges.f k x155000 x155001 x155002 1).bind fun t170 => (if t170 < 0 then (some false) else (if t170 = x7 then (some true) else (some false))))
end
def laws_FnExactAgesNew.f (k : Nat) (a0 : Int) : Option (Bool) := (spec_AgesNew.f k a0).bind fun bt137 => ((impl_AgesNew.f k a0).bind fun bt146 => ((laws_eqAges.f k bt146.1 bt146.2.1 bt146.2.2.1 bt137.1 bt137.2.1 bt137.2.2.1).bind fun t155 => (if t155 = true then (laws_FnExactAgesNew.j0 k a0 bt137.2.2.2 (bt146.2.2.2 != bt137.2.2.2) bt137.1 bt137.2.1 bt137.2.2.1 bt146.1 bt146.2.1 bt146.2.2.1) else (laws_FnExactAgesNew.j0 k a0 bt137.2.2.2 true bt137.1 bt137.2.1 bt137.2.2.1 bt146.1 bt146.2.1 bt146.2.2.1))))
theorem laws_FnExactAgesNew.mono_l : ∀ k, (∀ y0 y1 y2 y3 y4 y5 y6 y7 y8, LeO (laws_FnExactAgesNew.j0 k y0 y1 y2 y3 y4 y5 y6 y7 y8) (laws_FnExactAgesNew.j0 (k + 1) y0 y1 y2 y3 y4 y5 y6 y7 y8)) ∧ (∀ y0 y1 y2 y3 y4, LeO (laws_FnExactAgesNew.j1 k y0 y1 y2 y3 y4) (laws_FnExactAgesNew.j1 (k + 1) y0 y1 y2 y3 y4))
  | 0 => ⟨fun _ _ _ _ _ _ _ _ _ r h => by simp [laws_FnExactAgesNew.j0] at h, fun _ _ _ _ _ r h => by simp [laws_FnExactAgesNew.j1] at h⟩
  | k + 1 => by
    obtain ⟨ih0, ih1⟩ := laws_FnExactAgesNew.mono_l k
    refine ⟨?_, ?_⟩
    · intro y0 y1 y2 y3 y4 y5 y6 y7 y8
      unfold laws_FnExactAgesNew.j0
      repeat' first
      | (with_reducible exact ih0 _ _ _ _ _ _ _ _ _)
      | (with_reducible exact ih1 _ _ _ _ _)
      | (with_reducible exact impl_AgesNew.mono _ _)
      | (with_reducible exact laws_eqAges.mono _ _ _ _ _ _ _)
      | (with_reducible exact laws_heldAges.mono _ _ _ _ _)
      | (with_reducible exact laws_markAges.mono _ _ _ _ _)
      | (with_reducible exact spec_AgesNew.mono _ _)
      | (with_reducible exact LeO.refl _)
      | (with_reducible exact LeO.none _)
      | (with_reducible refine LeO.ite ?_ ?_)
      | (with_reducible refine LeO.bind ?_ (fun _ => ?_))
      | exact ih0 _ _ _ _ _ _ _ _ _
      | exact ih1 _ _ _ _ _
      | exact impl_AgesNew.mono _ _
      | exact laws_eqAges.mono _ _ _ _ _ _ _
      | exact laws_heldAges.mono _ _ _ _ _
      | exact laws_markAges.mono _ _ _ _ _
      | exact spec_AgesNew.mono _ _
      | exact LeO.none _
      | refine LeO.ite ?_ ?_
      | refine LeO.bind ?_ (fun _ => ?_)
    · intro y0 y1 y2 y3 y4
      unfold laws_FnExactAgesNew.j1
      repeat' first
      | (with_reducible exact ih0 _ _ _ _ _ _ _ _ _)
      | (with_reducible exact ih1 _ _ _ _ _)
      | (with_reducible exact impl_AgesNew.mono _ _)
      | (with_reducible exact laws_eqAges.mono _ _ _ _ _ _ _)
      | (with_reducible exact laws_heldAges.mono _ _ _ _ _)
      | (with_reducible exact laws_markAges.mono _ _ _ _ _)
      | (with_reducible exact spec_AgesNew.mono _ _)
      | (with_reducible exact LeO.refl _)
      | (with_reducible exact LeO.none _)
      | (with_reducible refine LeO.ite ?_ ?_)
      | (with_reducible refine LeO.bind ?_ (fun _ => ?_))
      | exact ih0 _ _ _ _ _ _ _ _ _
      | exact ih1 _ _ _ _ _
      | exact impl_AgesNew.mono _ _
      | exact laws_eqAges.mono _ _ _ _ _ _ _
      | exact laws_heldAges.mono _ _ _ _ _
      | exact laws_markAges.mono _ _ _ _ _
      | exact spec_AgesNew.mono _ _
      | exact LeO.none _
      | refine LeO.ite ?_ ?_
      | refine LeO.bind ?_ (fun _ => ?_)
theorem laws_FnExactAgesNew.mono : ∀ a0 k, LeO (laws_FnExactAgesNew.f k a0) (laws_FnExactAgesNew.f (k + 1) a0) := by
  intro a0 k
  obtain ⟨ih0, ih1⟩ := laws_FnExactAgesNew.mono_l k
  unfold laws_FnExactAgesNew.f
  repeat' first
      | (with_reducible exact ih0 _ _ _ _ _ _ _ _ _)
      | (with_reducible exact ih1 _ _ _ _ _)
      | (with_reducible exact impl_AgesNew.mono _ _)
      | (with_reducible exact laws_eqAges.mono _ _ _ _ _ _ _)
      | (with_reducible exact laws_heldAges.mono _ _ _ _ _)
      | (with_reducible exact laws_markAges.mono _ _ _ _ _)
      | (with_reducible exact spec_AgesNew.mono _ _)
      | (with_reducible exact LeO.refl _)
      | (with_reducible exact LeO.none _)
      | (with_reducible refine LeO.ite ?_ ?_)
      | (with_reducible refine LeO.bind ?_ (fun _ => ?_))
      | exact ih0 _ _ _ _ _ _ _ _ _
      | exact ih1 _ _ _ _ _
      | exact impl_AgesNew.mono _ _
      | exact laws_eqAges.mono _ _ _ _ _ _ _
      | exact laws_heldAges.mono _ _ _ _ _
      | exact laws_markAges.mono _ _ _ _ _
      | exact spec_AgesNew.mono _ _
      | exact LeO.none _
      | refine LeO.ite ?_ ?_
      | refine LeO.bind ?_ (fun _ => ?_)
set_option maxHeartbeats 8000000 in
set_option maxRecDepth 100000 in
theorem laws_FnExactAgesNew.calls (k : Nat) (a0 : Int) (r : Bool) (w : World) (h : laws_FnExactAgesNew.f k a0 = some r) :
    Calls Try.prog 4 #[.int .i64 a0] w fun e w' => e = .returned (.bool r) ∧ Below w.heap.size w w' := by
  have hu30 := Try.underlying30
  have HB := Aside0.mk (Below.refl w.heap.size w)
  have H : ((spec_AgesNew.f k a0).bind fun bt137 => ((impl_AgesNew.f k a0).bind fun bt146 => ((laws_eqAges.f k bt146.1 bt146.2.1 bt146.2.2.1 bt137.1 bt137.2.1 bt137.2.2.1).bind fun t155 => (if t155 = true then (laws_FnExactAgesNew.j0 k a0 bt137.2.2.2 (bt146.2.2.2 != bt137.2.2.2) bt137.1 bt137.2.1 bt137.2.2.1 bt146.1 bt146.2.1 bt146.2.2.1) else (laws_FnExactAgesNew.j0 k a0 bt137.2.2.2 true bt137.1 bt137.2.1 bt137.2.2.1 bt146.1 bt146.2.1 bt146.2.2.1))))) = some r := h
  clear h
  replace H := Option.bind_eq_some_iff.mp H
  obtain ⟨⟨t137, t138, t141, t144⟩, A20, H⟩ := H
  replace H : ((impl_AgesNew.f k a0).bind fun bt146 => ((laws_eqAges.f k bt146.1 bt146.2.1 bt146.2.2.1 t137 t138 t141).bind fun t155 => (if t155 = true then (laws_FnExactAgesNew.j0 k a0 t144 (bt146.2.2.2 != t144) t137 t138 t141 bt146.1 bt146.2.1 bt146.2.2.1) else (laws_FnExactAgesNew.j0 k a0 t144 true t137 t138 t141 bt146.1 bt146.2.1 bt146.2.2.1)))) = some r := H
  have A2 := Aside0.mk A20
  clear A20
  replace H := Option.bind_eq_some_iff.mp H
  obtain ⟨⟨t146, t147, t150, t153⟩, A30, H⟩ := H
  replace H : ((laws_eqAges.f k t146 t147 t150 t137 t138 t141).bind fun t155 => (if t155 = true then (laws_FnExactAgesNew.j0 k a0 t144 (t153 != t144) t137 t138 t141 t146 t147 t150) else (laws_FnExactAgesNew.j0 k a0 t144 true t137 t138 t141 t146 t147 t150))) = some r := H
  have A3 := Aside0.mk A30
  clear A30
  have HC4 := Aside0.mk H
  clear H
  go_enter Try.func4, Try.ntmps4
  go_upto_region 3 with (first | ((with_reducible refine gate_callee (f := 16) rfl ?_); refine goesL_ (some 13) rfl rfl Try.func16 (by kernel_rfl) rfl #[.int .i64 a0] rfl (by (try simp only [List.map_toArray, List.map_cons, List.map_nil]); first | done | rfl | (simp only [List.length_drop, List.length_take]; rfl)) ?_; (with_reducible refine (spec_AgesNew.calls k a0 t137 t138 t141 t144 _ A2.out).mono ?_); rintro e w5 ⟨v139, v142, rfl, ho0, ho1, hb⟩; refine ⟨_, rfl, ?_⟩; have n0_ := Aside0.mk (Kd.R_lower ho0 (below_size (by repeat (first | (with_reducible first | exact HB.out | apply below_alloc | apply pw_below_drewN | apply below_drew1) | exact HB.out)))); have n1_ := Aside0.mk (Kd.R_lower ho1 (below_size (by repeat (first | (with_reducible first | exact HB.out | apply below_alloc | apply pw_below_drewN | apply below_drew1) | exact HB.out)))); have n2_ := Aside0.mk (below_step (by repeat (first | (with_reducible first | exact HB.out | apply below_alloc | apply pw_below_drewN | apply below_drew1) | exact HB.out)) hb); clear HB; have HO140 := n0_; have HO143 := n1_; have HB := n2_; clear n0_ n1_ n2_; (try clear hb); (try clear hb2); (try clear hk); (try clear hi); (try clear ho0); (try clear ho1)) | ((with_reducible refine gate_dst (N := 3) rfl ?_); refine box_event ?hg (N := 3) ?hd (cs := #[.int .i64 0, .slice none 0 0, .slice none 0 0]) (t := 30) ?hr ?_; (case hd => rfl); (case hg => rfl); (case hr => first | (go_simp; done) | (go_simp; rfl)); intro gb145 hg w6 hbox hb; have n0_ := Aside0.mk (Kd.R_below (by (with_reducible repeat (first | apply Kd.R_alloc | apply Kd.R_drewN | apply Kd.R_drew)); exact HO140.out) hb); have n1_ := Aside0.mk (Kd.R_below (by (with_reducible repeat (first | apply Kd.R_alloc | apply Kd.R_drewN | apply Kd.R_drew)); exact HO143.out) hb); have n2_ := Aside0.mk (below_step (by repeat (first | (with_reducible first | exact HB.out | apply below_alloc | apply pw_below_drewN | apply below_drew1) | exact HB.out)) hb); have n3_ := Aside0.mk (hbox); have n4_ := Aside0.mk ((by rw [hg]; exact (below_size (by repeat (first | (with_reducible first | exact HB.out | apply below_alloc | apply pw_below_drewN | apply below_drew1) | exact HB.out))) : w.heap.size ≤ gb145)); have n5_ := Aside0.mk ((by rw [hg]; exact (below_size (by repeat (first | (with_reducible first | exact HB.out | apply below_alloc | apply pw_below_drewN | apply below_drew1) | exact HB.out))) : w.heap.size ≤ gb145)); clear HO140; clear HO143; clear HB; have HO140 := n0_; have HO143 := n1_; have HB := n2_; have BK145 := n3_; have GW145 := n4_; have GE145 := n5_; clear n0_ n1_ n2_ n3_ n4_ n5_; clear hb hbox hg; have hcz7_0 : w6.cell? ⟨gb145, 0, none⟩ = some (.int .i64 0) := (blk_cell BK145.out 0).trans rfl; have hcz7_1 : w6.cell? ⟨gb145, 1, none⟩ = some (.slice none 0 0) := (blk_cell BK145.out 1).trans rfl; have hcz7_2 : w6.cell? ⟨gb145, 2, none⟩ = some (.slice none 0 0) := (blk_cell BK145.out 2).trans rfl; have hfz7_0 := blk_frozen BK145.out 0; have hfz7_1 := blk_frozen BK145.out 1; have hfz7_2 := blk_frozen BK145.out 2; obtain ⟨Ao8, co8, eo8⟩ := Kd.R_slice HO140.out; subst eo8; obtain ⟨Ao9, co9, eo9⟩ := Kd.R_slice HO143.out; subst eo9) | ((with_reducible refine gate_callee (f := 17) rfl ?_); refine goesL_ (some 18) rfl rfl Try.func17 (by kernel_rfl) rfl #[.int .i64 a0] rfl (by (try simp only [List.map_toArray, List.map_cons, List.map_nil]); first | done | rfl | (simp only [List.length_drop, List.length_take]; rfl)) ?_; (with_reducible refine (impl_AgesNew.calls k a0 t146 t147 t150 t153 _ A3.out).mono ?_); rintro e w10 ⟨v148, v151, rfl, ho0, ho1, hb⟩; refine ⟨_, rfl, ?_⟩; have n0_ := Aside0.mk (Kd.R_elder' (by (with_reducible repeat (first | apply Kd.R_alloc | apply Kd.R_drewN | apply Kd.R_drew)); exact (Kd.R_mono (Kd.R_far (p := ⟨gb145, 2, none⟩) (Kd.R_far (p := ⟨gb145, 1, none⟩) (Kd.R_far (p := ⟨gb145, 0, none⟩) (Kd.R_types HO140.out BK145.out (by decide)) (fun _ hk => hk.2) (.int .i64 t137)) (fun _ hk => hk.2) (.slice Ao8 t138.length co8)) (fun _ hk => hk.2) (.slice Ao9 t141.length co9)) (fun _ h_ => h_.1))) (Kd.R_base ho0) hb); have n1_ := Aside0.mk (Kd.R_elder' (by (with_reducible repeat (first | apply Kd.R_alloc | apply Kd.R_drewN | apply Kd.R_drew)); exact (Kd.R_mono (Kd.R_far (p := ⟨gb145, 2, none⟩) (Kd.R_far (p := ⟨gb145, 1, none⟩) (Kd.R_far (p := ⟨gb145, 0, none⟩) (Kd.R_types HO143.out BK145.out (by decide)) (fun _ hk => hk.2) (.int .i64 t137)) (fun _ hk => hk.2) (.slice Ao8 t138.length co8)) (fun _ hk => hk.2) (.slice Ao9 t141.length co9)) (fun _ h_ => h_.1))) (Kd.R_base ho1) hb); have n2_ := Aside0.mk (Kd.R_lower (Kd.R_new' ho0 (Kd.R_lt (by (with_reducible repeat (first | apply Kd.R_alloc | apply Kd.R_drewN | apply Kd.R_drew)); exact (Kd.R_mono (Kd.R_far (p := ⟨gb145, 2, none⟩) (Kd.R_far (p := ⟨gb145, 1, none⟩) (Kd.R_far (p := ⟨gb145, 0, none⟩) (Kd.R_types HO140.out BK145.out (by decide)) (fun _ hk => hk.2) (.int .i64 t137)) (fun _ hk => hk.2) (.slice Ao8 t138.length co8)) (fun _ hk => hk.2) (.slice Ao9 t141.length co9)) (fun _ h_ => h_.1))))) (below_size (by repeat (first | (with_reducible first | exact HB.out | apply below_alloc | apply pw_below_drewN | apply below_drew1 | refine below_set ?_ GE145.out) | exact HB.out)))); have n3_ := Aside0.mk (Kd.R_lower (Kd.R_new' ho1 (Kd.R_lt (by (with_reducible repeat (first | apply Kd.R_alloc | apply Kd.R_drewN | apply Kd.R_drew)); exact (Kd.R_mono (Kd.R_far (p := ⟨gb145, 2, none⟩) (Kd.R_far (p := ⟨gb145, 1, none⟩) (Kd.R_far (p := ⟨gb145, 0, none⟩) (Kd.R_types HO143.out BK145.out (by decide)) (fun _ hk => hk.2) (.int .i64 t137)) (fun _ hk => hk.2) (.slice Ao8 t138.length co8)) (fun _ hk => hk.2) (.slice Ao9 t141.length co9)) (fun _ h_ => h_.1))))) (below_size (by repeat (first | (with_reducible first | exact HB.out | apply below_alloc | apply pw_below_drewN | apply below_drew1 | refine below_set ?_ GE145.out) | exact HB.out)))); have n4_ := Aside0.mk (blk_below (g := gb145) (o := .cells #[.int .i64 t137, .slice Ao8 t138.length co8, .slice Ao9 t141.length co9] 30 (0, 0)) (by (with_reducible repeat (first | refine blk_drewN ?_ _ | refine blk_drew ?_ | refine blk_alloc ?_ _)); refine blk_put (cs := #[.int .i64 t137, .slice Ao8 t138.length co8, .slice none 0 0]) ?_ 2 _ rfl; (with_reducible repeat (first | refine blk_drewN ?_ _ | refine blk_drew ?_ | refine blk_alloc ?_ _)); refine blk_put (cs := #[.int .i64 t137, .slice none 0 0, .slice none 0 0]) ?_ 1 _ rfl; (with_reducible repeat (first | refine blk_drewN ?_ _ | refine blk_drew ?_ | refine blk_alloc ?_ _)); refine blk_put (cs := #[.int .i64 0, .slice none 0 0, .slice none 0 0]) ?_ 0 _ rfl; (with_reducible repeat (first | refine blk_drewN ?_ _ | refine blk_drew ?_ | refine blk_alloc ?_ _)); exact BK145.out) hb); have n5_ := Aside0.mk (below_step (by repeat (first | (with_reducible first | exact HB.out | apply below_alloc | apply pw_below_drewN | apply below_drew1 | refine below_set ?_ GE145.out) | exact HB.out)) hb); clear HO140; clear HO143; clear BK145; clear HB; have HO140 := n0_; have HO143 := n1_; have HO149 := n2_; have HO152 := n3_; have BK145 := n4_; have HB := n5_; clear n0_ n1_ n2_ n3_ n4_ n5_; (try clear hb); (try clear hb2); (try clear hk); (try clear hi); (try clear ho0); (try clear ho1)) | ((with_reducible refine gate_dst (N := 5) rfl ?_); refine box_event ?hg (N := 5) ?hd (cs := #[.int .i64 0, .slice none 0 0, .slice none 0 0]) (t := 30) ?hr ?_; (case hd => rfl); (case hg => rfl); (case hr => first | (go_simp; done) | (go_simp; rfl)); intro gb154 hg w11 hbox hb; have n0_ := Aside0.mk (Kd.R_below (by (with_reducible repeat (first | apply Kd.R_alloc | apply Kd.R_drewN | apply Kd.R_drew)); exact HO140.out) hb); have n1_ := Aside0.mk (Kd.R_below (by (with_reducible repeat (first | apply Kd.R_alloc | apply Kd.R_drewN | apply Kd.R_drew)); exact HO143.out) hb); have n2_ := Aside0.mk (Kd.R_below (by (with_reducible repeat (first | apply Kd.R_alloc | apply Kd.R_drewN | apply Kd.R_drew)); exact HO149.out) hb); have n3_ := Aside0.mk (Kd.R_below (by (with_reducible repeat (first | apply Kd.R_alloc | apply Kd.R_drewN | apply Kd.R_drew)); exact HO152.out) hb); have n4_ := Aside0.mk (blk_below (g := gb145) (o := .cells #[.int .i64 t137, .slice Ao8 t138.length co8, .slice Ao9 t141.length co9] 30 (0, 0)) (by (with_reducible repeat (first | refine blk_drewN ?_ _ | refine blk_drew ?_ | refine blk_alloc ?_ _)); exact BK145.out) hb); have n5_ := Aside0.mk (below_step (by repeat (first | (with_reducible first | exact HB.out | apply below_alloc | apply pw_below_drewN | apply below_drew1 | refine below_set ?_ GE145.out) | exact HB.out)) hb); have n6_ := Aside0.mk (hbox); have n7_ := Aside0.mk ((by rw [hg]; exact (below_size (by repeat (first | (with_reducible first | exact HB.out | apply below_alloc | apply pw_below_drewN | apply below_drew1 | refine below_set ?_ GE145.out) | exact HB.out))) : w.heap.size ≤ gb154)); have n8_ := Aside0.mk ((by rw [hg]; exact (below_size (by repeat (first | (with_reducible first | exact HB.out | apply below_alloc | apply pw_below_drewN | apply below_drew1 | refine below_set ?_ GE145.out) | exact HB.out))) : w.heap.size ≤ gb154)); have n9_ := Aside0.mk ((by rw [hg]; exact Nat.ne_of_lt (blk_lt (g := gb145) (o := .cells #[.int .i64 t137, .slice Ao8 t138.length co8, .slice Ao9 t141.length co9] 30 (0, 0)) (by (with_reducible repeat (first | refine blk_drewN ?_ _ | refine blk_drew ?_ | refine blk_alloc ?_ _)); exact BK145.out)) : gb145 ≠ gb154)); have n10_ := Aside0.mk ((by rw [hg]; exact Nat.ne_of_gt (blk_lt (g := gb145) (o := .cells #[.int .i64 t137, .slice Ao8 t138.length co8, .slice Ao9 t141.length co9] 30 (0, 0)) (by (with_reducible repeat (first | refine blk_drewN ?_ _ | refine blk_drew ?_ | refine blk_alloc ?_ _)); exact BK145.out)) : gb154 ≠ gb145)); clear HO140; clear HO143; clear HO149; clear HO152; clear BK145; clear HB; have HO140 := n0_; have HO143 := n1_; have HO149 := n2_; have HO152 := n3_; have BK145 := n4_; have HB := n5_; have BK154 := n6_; have GW154 := n7_; have GE154 := n8_; have NB145_154 := n9_; have NB154_145 := n10_; clear n0_ n1_ n2_ n3_ n4_ n5_ n6_ n7_ n8_ n9_ n10_; clear hb hbox hg; have hnb12 := NB154_145.out; have hnc12 := NB145_154.out; have hcz13_0 : w11.cell? ⟨gb154, 0, none⟩ = some (.int .i64 0) := (blk_cell BK154.out 0).trans rfl; have hcz13_1 : w11.cell? ⟨gb154, 1, none⟩ = some (.slice none 0 0) := (blk_cell BK154.out 1).trans rfl; have hcz13_2 : w11.cell? ⟨gb154, 2, none⟩ = some (.slice none 0 0) := (blk_cell BK154.out 2).trans rfl; have hfz13_0 := blk_frozen BK154.out 0; have hfz13_1 := blk_frozen BK154.out 1; have hfz13_2 := blk_frozen BK154.out 2; obtain ⟨Ao14, co14, eo14⟩ := Kd.R_slice HO149.out; subst eo14; obtain ⟨Ao15, co15, eo15⟩ := Kd.R_slice HO152.out; subst eo15))
  (try simp only [Act.put, List.setIfInBounds_toArray, List.set_cons_zero, List.set_cons_succ])
  go_cut [29] (fun v29 wc => ∃ (kq : Nat) (x29_3 : Bool), v29 = .bool x29_3 ∧ Aside0 (laws_FnExactAgesNew.j0 kq a0 t144 x29_3 t137 t138 t141 t146 t147 t150 = some r) ∧ Aside0 (kq ≤ k) ∧ Aside0 (Kd.R (Kd.int .i64) 3 wc w.heap.size (fun k_ => some k_ ≠ ((.slice Ao14 t147.length co14) : Value).ownBlock) (.slice Ao8 t138.length co8) t138) ∧ Aside0 (Kd.R k48 48 wc w.heap.size (fun k_ => some k_ ≠ ((.slice Ao15 t150.length co15) : Value).ownBlock) (.slice Ao9 t141.length co9) t141) ∧ Aside0 (Kd.R (Kd.int .i64) 3 wc w.heap.size (fun k_ => some k_ ≠ ((.slice Ao8 t138.length co8) : Value).ownBlock) (.slice Ao14 t147.length co14) t147) ∧ Aside0 (Kd.R k48 48 wc w.heap.size (fun k_ => some k_ ≠ ((.slice Ao9 t141.length co9) : Value).ownBlock) (.slice Ao15 t150.length co15) t150) ∧ Aside0 (wc.heap[gb145]? = some (.cells #[.int .i64 t137, (.slice Ao8 t138.length co8), (.slice Ao9 t141.length co9)] 30 (0, 0))) ∧ Aside0 (wc.heap[gb154]? = some (.cells #[.int .i64 t146, (.slice Ao14 t147.length co14), (.slice Ao15 t150.length co15)] 30 (0, 0))) ∧ Aside0 (Below w.heap.size w wc))
  case first =>
    have H := HC4.out
    clear HC4
    replace H := Option.bind_eq_some_iff.mp H
    obtain ⟨t155, A160, H⟩ := H
    replace H : (if t155 = true then (laws_FnExactAgesNew.j0 k a0 t144 (t153 != t144) t137 t138 t141 t146 t147 t150) else (laws_FnExactAgesNew.j0 k a0 t144 true t137 t138 t141 t146 t147 t150)) = some r := H
    have A16 := Aside0.mk A160
    clear A160
    by_cases c17 : t155 = true
    · subst c17
      have H1 : (laws_FnExactAgesNew.j0 k a0 t144 (t153 != t144) t137 t138 t141 t146 t147 t150) = some r := by rw [if_pos rfl] at H; exact H
      clear H
      have H := H1
      clear H1
      have H' := Aside0.mk H
      clear H
      have hnb18 := NB154_145.out
      have hnc18 := NB145_154.out
      have hcz19_0 : w11.cell? ⟨gb154, 0, none⟩ = some (.int .i64 0) := (blk_cell BK154.out 0).trans rfl
      have hcz19_1 : w11.cell? ⟨gb154, 1, none⟩ = some (.slice none 0 0) := (blk_cell BK154.out 1).trans rfl
      have hcz19_2 : w11.cell? ⟨gb154, 2, none⟩ = some (.slice none 0 0) := (blk_cell BK154.out 2).trans rfl
      have hfz19_0 := blk_frozen BK154.out 0
      have hfz19_1 := blk_frozen BK154.out 1
      have hfz19_2 := blk_frozen BK154.out 2
      have hcz20_0 : w11.cell? ⟨gb145, 0, none⟩ = some (.int .i64 t137) := (blk_cell BK145.out 0).trans rfl
      have hcz20_1 : w11.cell? ⟨gb145, 1, none⟩ = some (.slice Ao8 t138.length co8) := (blk_cell BK145.out 1).trans rfl
      have hcz20_2 : w11.cell? ⟨gb145, 2, none⟩ = some (.slice Ao9 t141.length co9) := (blk_cell BK145.out 2).trans rfl
      have hfz20_0 := blk_frozen BK145.out 0
      have hfz20_1 := blk_frozen BK145.out 1
      have hfz20_2 := blk_frozen BK145.out 2
      go_wp2_with (first | ((with_reducible refine gate_callee (f := 15) rfl ?_); refine goesL_ (some 23) rfl rfl Try.func15 (by kernel_rfl) rfl #[.agg #[.int .i64 t146, .slice Ao14 t147.length co14, .slice Ao15 t150.length co15], .agg #[.int .i64 t137, .slice Ao8 t138.length co8, .slice Ao9 t141.length co9]] rfl (by (try simp only [List.map_toArray, List.map_cons, List.map_nil]); first | done | rfl | (simp only [List.length_drop, List.length_take]; rfl)) ?_; (with_reducible refine (laws_eqAges.calls k t146 _ _ t147 _ _ t150 t137 _ _ t138 _ _ t141 true _ ?side1 ?side2 ?side3 ?side4 ?side5 ?side6 ?side7 ?side8 A16.out).mono ?_); (case side1 => refine (Kd.R_reads' (e := 3) (base := w.heap.size) (ok := fun k_ => (True ∧ some k_ ≠ (.slice Ao8 t138.length co8 : Value).ownBlock)) (n := t147.length) (c := co14) ?_).2.2; exact (by (with_reducible repeat (first | apply Kd.R_alloc | apply Kd.R_drewN | apply Kd.R_drew)); exact (Kd.R_mono (Kd.R_far (p := ⟨gb154, 2, none⟩) (Kd.R_far (p := ⟨gb154, 1, none⟩) (Kd.R_far (p := ⟨gb154, 0, none⟩) (Kd.R_types HO149.out BK154.out (by decide)) (fun _ hk => hk.2) (.int .i64 t146)) (fun _ hk => hk.2) (.slice Ao14 t147.length co14)) (fun _ hk => hk.2) (.slice Ao15 t150.length co15)) (fun _ h_ => h_.1)))); (case side2 => exact (Kd.R_reads' HO149.out).2.1); (case side3 => refine (Kd.R_reads' (e := 48) (base := w.heap.size) (ok := fun k_ => (True ∧ some k_ ≠ (.slice Ao9 t141.length co9 : Value).ownBlock)) (n := t150.length) (c := co15) ?_).2.2; exact (by (with_reducible repeat (first | apply Kd.R_alloc | apply Kd.R_drewN | apply Kd.R_drew)); exact (Kd.R_mono (Kd.R_far (p := ⟨gb154, 2, none⟩) (Kd.R_far (p := ⟨gb154, 1, none⟩) (Kd.R_far (p := ⟨gb154, 0, none⟩) (Kd.R_types HO152.out BK154.out (by decide)) (fun _ hk => hk.2) (.int .i64 t146)) (fun _ hk => hk.2) (.slice Ao14 t147.length co14)) (fun _ hk => hk.2) (.slice Ao15 t150.length co15)) (fun _ h_ => h_.1)))); (case side4 => exact (Kd.R_reads' HO152.out).2.1); (case side5 => refine (Kd.R_reads' (e := 3) (base := w.heap.size) (ok := fun k_ => (True ∧ some k_ ≠ (.slice Ao14 t147.length co14 : Value).ownBlock)) (n := t138.length) (c := co8) ?_).2.2; exact (by (with_reducible repeat (first | apply Kd.R_alloc | apply Kd.R_drewN | apply Kd.R_drew)); exact (Kd.R_mono (Kd.R_far (p := ⟨gb154, 2, none⟩) (Kd.R_far (p := ⟨gb154, 1, none⟩) (Kd.R_far (p := ⟨gb154, 0, none⟩) (Kd.R_types HO140.out BK154.out (by decide)) (fun _ hk => hk.2) (.int .i64 t146)) (fun _ hk => hk.2) (.slice Ao14 t147.length co14)) (fun _ hk => hk.2) (.slice Ao15 t150.length co15)) (fun _ h_ => h_.1)))); (case side6 => exact (Kd.R_reads' HO140.out).2.1); (case side7 => refine (Kd.R_reads' (e := 48) (base := w.heap.size) (ok := fun k_ => (True ∧ some k_ ≠ (.slice Ao15 t150.length co15 : Value).ownBlock)) (n := t141.length) (c := co9) ?_).2.2; exact (by (with_reducible repeat (first | apply Kd.R_alloc | apply Kd.R_drewN | apply Kd.R_drew)); exact (Kd.R_mono (Kd.R_far (p := ⟨gb154, 2, none⟩) (Kd.R_far (p := ⟨gb154, 1, none⟩) (Kd.R_far (p := ⟨gb154, 0, none⟩) (Kd.R_types HO143.out BK154.out (by decide)) (fun _ hk => hk.2) (.int .i64 t146)) (fun _ hk => hk.2) (.slice Ao14 t147.length co14)) (fun _ hk => hk.2) (.slice Ao15 t150.length co15)) (fun _ h_ => h_.1)))); (case side8 => exact (Kd.R_reads' HO143.out).2.1); rintro e w21 ⟨rfl, hb⟩; refine ⟨_, rfl, ?_⟩; have n0_ := Aside0.mk (Kd.R_below (by (with_reducible repeat (first | apply Kd.R_alloc | apply Kd.R_drewN | apply Kd.R_drew)); exact (Kd.R_mono (Kd.R_far (p := ⟨gb154, 2, none⟩) (Kd.R_far (p := ⟨gb154, 1, none⟩) (Kd.R_far (p := ⟨gb154, 0, none⟩) (Kd.R_types HO140.out BK154.out (by decide)) (fun _ hk => hk.2) (.int .i64 t146)) (fun _ hk => hk.2) (.slice Ao14 t147.length co14)) (fun _ hk => hk.2) (.slice Ao15 t150.length co15)) (fun _ h_ => h_.1))) hb); have n1_ := Aside0.mk (Kd.R_below (by (with_reducible repeat (first | apply Kd.R_alloc | apply Kd.R_drewN | apply Kd.R_drew)); exact (Kd.R_mono (Kd.R_far (p := ⟨gb154, 2, none⟩) (Kd.R_far (p := ⟨gb154, 1, none⟩) (Kd.R_far (p := ⟨gb154, 0, none⟩) (Kd.R_types HO143.out BK154.out (by decide)) (fun _ hk => hk.2) (.int .i64 t146)) (fun _ hk => hk.2) (.slice Ao14 t147.length co14)) (fun _ hk => hk.2) (.slice Ao15 t150.length co15)) (fun _ h_ => h_.1))) hb); have n2_ := Aside0.mk (Kd.R_below (by (with_reducible repeat (first | apply Kd.R_alloc | apply Kd.R_drewN | apply Kd.R_drew)); exact (Kd.R_mono (Kd.R_far (p := ⟨gb154, 2, none⟩) (Kd.R_far (p := ⟨gb154, 1, none⟩) (Kd.R_far (p := ⟨gb154, 0, none⟩) (Kd.R_types HO149.out BK154.out (by decide)) (fun _ hk => hk.2) (.int .i64 t146)) (fun _ hk => hk.2) (.slice Ao14 t147.length co14)) (fun _ hk => hk.2) (.slice Ao15 t150.length co15)) (fun _ h_ => h_.1))) hb); have n3_ := Aside0.mk (Kd.R_below (by (with_reducible repeat (first | apply Kd.R_alloc | apply Kd.R_drewN | apply Kd.R_drew)); exact (Kd.R_mono (Kd.R_far (p := ⟨gb154, 2, none⟩) (Kd.R_far (p := ⟨gb154, 1, none⟩) (Kd.R_far (p := ⟨gb154, 0, none⟩) (Kd.R_types HO152.out BK154.out (by decide)) (fun _ hk => hk.2) (.int .i64 t146)) (fun _ hk => hk.2) (.slice Ao14 t147.length co14)) (fun _ hk => hk.2) (.slice Ao15 t150.length co15)) (fun _ h_ => h_.1))) hb); have n4_ := Aside0.mk (blk_below (g := gb145) (o := .cells #[.int .i64 t137, .slice Ao8 t138.length co8, .slice Ao9 t141.length co9] 30 (0, 0)) (by (with_reducible repeat (first | refine blk_drewN ?_ _ | refine blk_drew ?_ | refine blk_alloc ?_ _)); refine blk_far ?_ NB145_154.out _; (with_reducible repeat (first | refine blk_drewN ?_ _ | refine blk_drew ?_ | refine blk_alloc ?_ _)); refine blk_far ?_ NB145_154.out _; (with_reducible repeat (first | refine blk_drewN ?_ _ | refine blk_drew ?_ | refine blk_alloc ?_ _)); refine blk_far ?_ NB145_154.out _; (with_reducible repeat (first | refine blk_drewN ?_ _ | refine blk_drew ?_ | refine blk_alloc ?_ _)); exact BK145.out) hb); have n5_ := Aside0.mk (blk_below (g := gb154) (o := .cells #[.int .i64 t146, .slice Ao14 t147.length co14, .slice Ao15 t150.length co15] 30 (0, 0)) (by (with_reducible repeat (first | refine blk_drewN ?_ _ | refine blk_drew ?_ | refine blk_alloc ?_ _)); refine blk_put (cs := #[.int .i64 t146, .slice Ao14 t147.length co14, .slice none 0 0]) ?_ 2 _ rfl; (with_reducible repeat (first | refine blk_drewN ?_ _ | refine blk_drew ?_ | refine blk_alloc ?_ _)); refine blk_put (cs := #[.int .i64 t146, .slice none 0 0, .slice none 0 0]) ?_ 1 _ rfl; (with_reducible repeat (first | refine blk_drewN ?_ _ | refine blk_drew ?_ | refine blk_alloc ?_ _)); refine blk_put (cs := #[.int .i64 0, .slice none 0 0, .slice none 0 0]) ?_ 0 _ rfl; (with_reducible repeat (first | refine blk_drewN ?_ _ | refine blk_drew ?_ | refine blk_alloc ?_ _)); exact BK154.out) hb); have n6_ := Aside0.mk (below_step (by repeat (first | (with_reducible first | exact HB.out | apply below_alloc | apply pw_below_drewN | apply below_drew1 | refine below_set ?_ GE145.out | refine below_set ?_ GE154.out) | exact HB.out)) hb); clear HO140; clear HO143; clear HO149; clear HO152; clear BK145; clear BK154; clear HB; have HO140 := n0_; have HO143 := n1_; have HO149 := n2_; have HO152 := n3_; have BK145 := n4_; have BK154 := n5_; have HB := n6_; clear n0_ n1_ n2_ n3_ n4_ n5_ n6_; (try clear hb); (try clear hb2); (try clear hk); (try clear hi)))
      go_meet
      case rel => exact ⟨_, ((t153 != t144)), (by first | rfl | (simp; done) | (simp [*]; done)), H', ⟨by first | omega | exact Nat.le_refl _⟩, ⟨by (with_reducible repeat (first | apply Kd.R_alloc | apply Kd.R_drewN | apply Kd.R_drew)); exact Kd.R_mono HO140.out (fun _ hk => hk.2)⟩, ⟨by (with_reducible repeat (first | apply Kd.R_alloc | apply Kd.R_drewN | apply Kd.R_drew)); exact Kd.R_mono HO143.out (fun _ hk => hk.2)⟩, ⟨by (with_reducible repeat (first | apply Kd.R_alloc | apply Kd.R_drewN | apply Kd.R_drew)); exact Kd.R_mono HO149.out (fun _ hk => hk.2)⟩, ⟨by (with_reducible repeat (first | apply Kd.R_alloc | apply Kd.R_drewN | apply Kd.R_drew)); exact Kd.R_mono HO152.out (fun _ hk => hk.2)⟩, ⟨by (with_reducible repeat (first | refine blk_drewN ?_ _ | refine blk_drew ?_ | refine blk_alloc ?_ _)); exact BK145.out⟩, ⟨by (with_reducible repeat (first | refine blk_drewN ?_ _ | refine blk_drew ?_ | refine blk_alloc ?_ _)); exact BK154.out⟩, ⟨by repeat (first | (with_reducible first | exact HB.out | apply below_alloc | apply pw_below_drewN | apply below_drew1 | refine below_set ?_ GE145.out | refine below_set ?_ GE154.out) | exact HB.out)⟩⟩
    · replace c17 := Bool.eq_false_iff.mpr c17
      subst c17
      have H1 : (laws_FnExactAgesNew.j0 k a0 t144 true t137 t138 t141 t146 t147 t150) = some r := by rw [if_neg (show ¬ (false = true) by decide)] at H; exact H
      clear H
      have H := H1
      clear H1
      have H' := Aside0.mk H
      clear H
      have hnb22 := NB154_145.out
      have hnc22 := NB145_154.out
      have hcz23_0 : w11.cell? ⟨gb154, 0, none⟩ = some (.int .i64 0) := (blk_cell BK154.out 0).trans rfl
      have hcz23_1 : w11.cell? ⟨gb154, 1, none⟩ = some (.slice none 0 0) := (blk_cell BK154.out 1).trans rfl
      have hcz23_2 : w11.cell? ⟨gb154, 2, none⟩ = some (.slice none 0 0) := (blk_cell BK154.out 2).trans rfl
      have hfz23_0 := blk_frozen BK154.out 0
      have hfz23_1 := blk_frozen BK154.out 1
      have hfz23_2 := blk_frozen BK154.out 2
      have hcz24_0 : w11.cell? ⟨gb145, 0, none⟩ = some (.int .i64 t137) := (blk_cell BK145.out 0).trans rfl
      have hcz24_1 : w11.cell? ⟨gb145, 1, none⟩ = some (.slice Ao8 t138.length co8) := (blk_cell BK145.out 1).trans rfl
      have hcz24_2 : w11.cell? ⟨gb145, 2, none⟩ = some (.slice Ao9 t141.length co9) := (blk_cell BK145.out 2).trans rfl
      have hfz24_0 := blk_frozen BK145.out 0
      have hfz24_1 := blk_frozen BK145.out 1
      have hfz24_2 := blk_frozen BK145.out 2
      go_wp2_with (first | ((with_reducible refine gate_callee (f := 15) rfl ?_); refine goesL_ (some 23) rfl rfl Try.func15 (by kernel_rfl) rfl #[.agg #[.int .i64 t146, .slice Ao14 t147.length co14, .slice Ao15 t150.length co15], .agg #[.int .i64 t137, .slice Ao8 t138.length co8, .slice Ao9 t141.length co9]] rfl (by (try simp only [List.map_toArray, List.map_cons, List.map_nil]); first | done | rfl | (simp only [List.length_drop, List.length_take]; rfl)) ?_; (with_reducible refine (laws_eqAges.calls k t146 _ _ t147 _ _ t150 t137 _ _ t138 _ _ t141 false _ ?side1 ?side2 ?side3 ?side4 ?side5 ?side6 ?side7 ?side8 A16.out).mono ?_); (case side1 => refine (Kd.R_reads' (e := 3) (base := w.heap.size) (ok := fun k_ => (True ∧ some k_ ≠ (.slice Ao8 t138.length co8 : Value).ownBlock)) (n := t147.length) (c := co14) ?_).2.2; exact (by (with_reducible repeat (first | apply Kd.R_alloc | apply Kd.R_drewN | apply Kd.R_drew)); exact (Kd.R_mono (Kd.R_far (p := ⟨gb154, 2, none⟩) (Kd.R_far (p := ⟨gb154, 1, none⟩) (Kd.R_far (p := ⟨gb154, 0, none⟩) (Kd.R_types HO149.out BK154.out (by decide)) (fun _ hk => hk.2) (.int .i64 t146)) (fun _ hk => hk.2) (.slice Ao14 t147.length co14)) (fun _ hk => hk.2) (.slice Ao15 t150.length co15)) (fun _ h_ => h_.1)))); (case side2 => exact (Kd.R_reads' HO149.out).2.1); (case side3 => refine (Kd.R_reads' (e := 48) (base := w.heap.size) (ok := fun k_ => (True ∧ some k_ ≠ (.slice Ao9 t141.length co9 : Value).ownBlock)) (n := t150.length) (c := co15) ?_).2.2; exact (by (with_reducible repeat (first | apply Kd.R_alloc | apply Kd.R_drewN | apply Kd.R_drew)); exact (Kd.R_mono (Kd.R_far (p := ⟨gb154, 2, none⟩) (Kd.R_far (p := ⟨gb154, 1, none⟩) (Kd.R_far (p := ⟨gb154, 0, none⟩) (Kd.R_types HO152.out BK154.out (by decide)) (fun _ hk => hk.2) (.int .i64 t146)) (fun _ hk => hk.2) (.slice Ao14 t147.length co14)) (fun _ hk => hk.2) (.slice Ao15 t150.length co15)) (fun _ h_ => h_.1)))); (case side4 => exact (Kd.R_reads' HO152.out).2.1); (case side5 => refine (Kd.R_reads' (e := 3) (base := w.heap.size) (ok := fun k_ => (True ∧ some k_ ≠ (.slice Ao14 t147.length co14 : Value).ownBlock)) (n := t138.length) (c := co8) ?_).2.2; exact (by (with_reducible repeat (first | apply Kd.R_alloc | apply Kd.R_drewN | apply Kd.R_drew)); exact (Kd.R_mono (Kd.R_far (p := ⟨gb154, 2, none⟩) (Kd.R_far (p := ⟨gb154, 1, none⟩) (Kd.R_far (p := ⟨gb154, 0, none⟩) (Kd.R_types HO140.out BK154.out (by decide)) (fun _ hk => hk.2) (.int .i64 t146)) (fun _ hk => hk.2) (.slice Ao14 t147.length co14)) (fun _ hk => hk.2) (.slice Ao15 t150.length co15)) (fun _ h_ => h_.1)))); (case side6 => exact (Kd.R_reads' HO140.out).2.1); (case side7 => refine (Kd.R_reads' (e := 48) (base := w.heap.size) (ok := fun k_ => (True ∧ some k_ ≠ (.slice Ao15 t150.length co15 : Value).ownBlock)) (n := t141.length) (c := co9) ?_).2.2; exact (by (with_reducible repeat (first | apply Kd.R_alloc | apply Kd.R_drewN | apply Kd.R_drew)); exact (Kd.R_mono (Kd.R_far (p := ⟨gb154, 2, none⟩) (Kd.R_far (p := ⟨gb154, 1, none⟩) (Kd.R_far (p := ⟨gb154, 0, none⟩) (Kd.R_types HO143.out BK154.out (by decide)) (fun _ hk => hk.2) (.int .i64 t146)) (fun _ hk => hk.2) (.slice Ao14 t147.length co14)) (fun _ hk => hk.2) (.slice Ao15 t150.length co15)) (fun _ h_ => h_.1)))); (case side8 => exact (Kd.R_reads' HO143.out).2.1); rintro e w25 ⟨rfl, hb⟩; refine ⟨_, rfl, ?_⟩; have n0_ := Aside0.mk (Kd.R_below (by (with_reducible repeat (first | apply Kd.R_alloc | apply Kd.R_drewN | apply Kd.R_drew)); exact (Kd.R_mono (Kd.R_far (p := ⟨gb154, 2, none⟩) (Kd.R_far (p := ⟨gb154, 1, none⟩) (Kd.R_far (p := ⟨gb154, 0, none⟩) (Kd.R_types HO140.out BK154.out (by decide)) (fun _ hk => hk.2) (.int .i64 t146)) (fun _ hk => hk.2) (.slice Ao14 t147.length co14)) (fun _ hk => hk.2) (.slice Ao15 t150.length co15)) (fun _ h_ => h_.1))) hb); have n1_ := Aside0.mk (Kd.R_below (by (with_reducible repeat (first | apply Kd.R_alloc | apply Kd.R_drewN | apply Kd.R_drew)); exact (Kd.R_mono (Kd.R_far (p := ⟨gb154, 2, none⟩) (Kd.R_far (p := ⟨gb154, 1, none⟩) (Kd.R_far (p := ⟨gb154, 0, none⟩) (Kd.R_types HO143.out BK154.out (by decide)) (fun _ hk => hk.2) (.int .i64 t146)) (fun _ hk => hk.2) (.slice Ao14 t147.length co14)) (fun _ hk => hk.2) (.slice Ao15 t150.length co15)) (fun _ h_ => h_.1))) hb); have n2_ := Aside0.mk (Kd.R_below (by (with_reducible repeat (first | apply Kd.R_alloc | apply Kd.R_drewN | apply Kd.R_drew)); exact (Kd.R_mono (Kd.R_far (p := ⟨gb154, 2, none⟩) (Kd.R_far (p := ⟨gb154, 1, none⟩) (Kd.R_far (p := ⟨gb154, 0, none⟩) (Kd.R_types HO149.out BK154.out (by decide)) (fun _ hk => hk.2) (.int .i64 t146)) (fun _ hk => hk.2) (.slice Ao14 t147.length co14)) (fun _ hk => hk.2) (.slice Ao15 t150.length co15)) (fun _ h_ => h_.1))) hb); have n3_ := Aside0.mk (Kd.R_below (by (with_reducible repeat (first | apply Kd.R_alloc | apply Kd.R_drewN | apply Kd.R_drew)); exact (Kd.R_mono (Kd.R_far (p := ⟨gb154, 2, none⟩) (Kd.R_far (p := ⟨gb154, 1, none⟩) (Kd.R_far (p := ⟨gb154, 0, none⟩) (Kd.R_types HO152.out BK154.out (by decide)) (fun _ hk => hk.2) (.int .i64 t146)) (fun _ hk => hk.2) (.slice Ao14 t147.length co14)) (fun _ hk => hk.2) (.slice Ao15 t150.length co15)) (fun _ h_ => h_.1))) hb); have n4_ := Aside0.mk (blk_below (g := gb145) (o := .cells #[.int .i64 t137, .slice Ao8 t138.length co8, .slice Ao9 t141.length co9] 30 (0, 0)) (by (with_reducible repeat (first | refine blk_drewN ?_ _ | refine blk_drew ?_ | refine blk_alloc ?_ _)); refine blk_far ?_ NB145_154.out _; (with_reducible repeat (first | refine blk_drewN ?_ _ | refine blk_drew ?_ | refine blk_alloc ?_ _)); refine blk_far ?_ NB145_154.out _; (with_reducible repeat (first | refine blk_drewN ?_ _ | refine blk_drew ?_ | refine blk_alloc ?_ _)); refine blk_far ?_ NB145_154.out _; (with_reducible repeat (first | refine blk_drewN ?_ _ | refine blk_drew ?_ | refine blk_alloc ?_ _)); exact BK145.out) hb); have n5_ := Aside0.mk (blk_below (g := gb154) (o := .cells #[.int .i64 t146, .slice Ao14 t147.length co14, .slice Ao15 t150.length co15] 30 (0, 0)) (by (with_reducible repeat (first | refine blk_drewN ?_ _ | refine blk_drew ?_ | refine blk_alloc ?_ _)); refine blk_put (cs := #[.int .i64 t146, .slice Ao14 t147.length co14, .slice none 0 0]) ?_ 2 _ rfl; (with_reducible repeat (first | refine blk_drewN ?_ _ | refine blk_drew ?_ | refine blk_alloc ?_ _)); refine blk_put (cs := #[.int .i64 t146, .slice none 0 0, .slice none 0 0]) ?_ 1 _ rfl; (with_reducible repeat (first | refine blk_drewN ?_ _ | refine blk_drew ?_ | refine blk_alloc ?_ _)); refine blk_put (cs := #[.int .i64 0, .slice none 0 0, .slice none 0 0]) ?_ 0 _ rfl; (with_reducible repeat (first | refine blk_drewN ?_ _ | refine blk_drew ?_ | refine blk_alloc ?_ _)); exact BK154.out) hb); have n6_ := Aside0.mk (below_step (by repeat (first | (with_reducible first | exact HB.out | apply below_alloc | apply pw_below_drewN | apply below_drew1 | refine below_set ?_ GE145.out | refine below_set ?_ GE154.out) | exact HB.out)) hb); clear HO140; clear HO143; clear HO149; clear HO152; clear BK145; clear BK154; clear HB; have HO140 := n0_; have HO143 := n1_; have HO149 := n2_; have HO152 := n3_; have BK145 := n4_; have BK154 := n5_; have HB := n6_; clear n0_ n1_ n2_ n3_ n4_ n5_ n6_; (try clear hb); (try clear hb2); (try clear hk); (try clear hi)))
      go_meet
      case rel => exact ⟨_, (true), (by first | rfl | (simp; done) | (simp [*]; done)), H', ⟨by first | omega | exact Nat.le_refl _⟩, ⟨by (with_reducible repeat (first | apply Kd.R_alloc | apply Kd.R_drewN | apply Kd.R_drew)); exact Kd.R_mono HO140.out (fun _ hk => hk.2)⟩, ⟨by (with_reducible repeat (first | apply Kd.R_alloc | apply Kd.R_drewN | apply Kd.R_drew)); exact Kd.R_mono HO143.out (fun _ hk => hk.2)⟩, ⟨by (with_reducible repeat (first | apply Kd.R_alloc | apply Kd.R_drewN | apply Kd.R_drew)); exact Kd.R_mono HO149.out (fun _ hk => hk.2)⟩, ⟨by (with_reducible repeat (first | apply Kd.R_alloc | apply Kd.R_drewN | apply Kd.R_drew)); exact Kd.R_mono HO152.out (fun _ hk => hk.2)⟩, ⟨by (with_reducible repeat (first | refine blk_drewN ?_ _ | refine blk_drew ?_ | refine blk_alloc ?_ _)); exact BK145.out⟩, ⟨by (with_reducible repeat (first | refine blk_drewN ?_ _ | refine blk_drew ?_ | refine blk_alloc ?_ _)); exact BK154.out⟩, ⟨by repeat (first | (with_reducible first | exact HB.out | apply below_alloc | apply pw_below_drewN | apply below_drew1 | refine below_set ?_ GE145.out | refine below_set ?_ GE154.out) | exact HB.out)⟩⟩
  case rest =>
    clear HC4
    try clear c1
    try clear c2
    try clear p2
    try clear c4
    try clear c12
    try clear c15
    try clear c16
    try clear c17
    try clear c18
    try clear c22
    try clear hcz13_0
    try clear hcz13_1
    try clear hcz13_2
    try clear hcz19_0
    try clear hcz19_1
    try clear hcz19_2
    try clear hcz20_0
    try clear hcz20_1
    try clear hcz20_2
    try clear hcz23_0
    try clear hcz23_1
    try clear hcz23_2
    try clear hcz24_0
    try clear hcz24_1
    try clear hcz24_2
    try clear hcz7_0
    try clear hcz7_1
    try clear hcz7_2
    try clear hfz13_0
    try clear hfz13_1
    try clear hfz13_2
    try clear hfz19_0
    try clear hfz19_1
    try clear hfz19_2
    try clear hfz20_0
    try clear hfz20_1
    try clear hfz20_2
    try clear hfz23_0
    try clear hfz23_1
    try clear hfz23_2
    try clear hfz24_0
    try clear hfz24_1
    try clear hfz24_2
    try clear hfz7_0
    try clear hfz7_1
    try clear hfz7_2
    obtain ⟨kq, x29_3, rfl, HA, HJ3, HO_146001, HO_146002, HO_155001, HO_155002, BK145, BK154, HB⟩ := hcut
    cases kq with
    | zero => exact absurd HA.out (by simp [laws_FnExactAgesNew.j0])
    | succ kj3 =>
      have H := HA.out
      clear HA
      simp only [laws_FnExactAgesNew.j0] at H
      by_cases c26 : x29_3 = true
      · subst c26
        have H1 : (some false) = some r := by rw [if_pos rfl] at H; exact H
        clear H
        have H := H1
        clear H1
        obtain rfl := Option.some.inj H
        go_wp2
        go_ret
        exact ⟨by first | rfl | (simp [errW_none, errW_some] <;> rfl) | (simp [*, errW_none, errW_some] <;> rfl), by repeat (first | (with_reducible first | exact HB.out | apply below_alloc | apply pw_below_drewN | apply below_drew1 | refine below_set ?_ GE145.out | refine below_set ?_ GE154.out) | exact HB.out)⟩
      · replace c26 := Bool.eq_false_iff.mpr c26
        subst c26
        have H1 : ((laws_markAges.f kj3 t146 t147 t150 1).bind fun bt156 => ((laws_heldAges.f kj3 t146 bt156.2.1 bt156.2.2 1).bind fun t159 => (if t159 < 0 then (some false) else (if t159 = bt156.1 then ((impl_AgesNew.f kj3 a0).bind fun bt160 => ((laws_eqAges.f kj3 bt160.1 bt160.2.1 bt160.2.2.1 t137 t138 t141).bind fun t169 => (if t169 = true then (laws_FnExactAgesNew.j1 kj3 bt156.1 (bt160.2.2.2 != t144) t146 bt156.2.1 bt156.2.2) else (laws_FnExactAgesNew.j1 kj3 bt156.1 true t146 bt156.2.1 bt156.2.2)))) else (some false))))) = some r := by rw [if_neg (show ¬ (false = true) by decide)] at H; exact H
        clear H
        have H := H1
        clear H1
        replace H := Option.bind_eq_some_iff.mp H
        obtain ⟨⟨t156, t157, t158⟩, A270, H⟩ := H
        replace H : ((laws_heldAges.f kj3 t146 t157 t158 1).bind fun t159 => (if t159 < 0 then (some false) else (if t159 = t156 then ((impl_AgesNew.f kj3 a0).bind fun bt160 => ((laws_eqAges.f kj3 bt160.1 bt160.2.1 bt160.2.2.1 t137 t138 t141).bind fun t169 => (if t169 = true then (laws_FnExactAgesNew.j1 kj3 t156 (bt160.2.2.2 != t144) t146 t157 t158) else (laws_FnExactAgesNew.j1 kj3 t156 true t146 t157 t158)))) else (some false)))) = some r := H
        have A27 := Aside0.mk A270
        clear A270
        replace H := Option.bind_eq_some_iff.mp H
        obtain ⟨t159, A280, H⟩ := H
        replace H : (if t159 < 0 then (some false) else (if t159 = t156 then ((impl_AgesNew.f kj3 a0).bind fun bt160 => ((laws_eqAges.f kj3 bt160.1 bt160.2.1 bt160.2.2.1 t137 t138 t141).bind fun t169 => (if t169 = true then (laws_FnExactAgesNew.j1 kj3 t156 (bt160.2.2.2 != t144) t146 t157 t158) else (laws_FnExactAgesNew.j1 kj3 t156 true t146 t157 t158)))) else (some false))) = some r := H
        have A28 := Aside0.mk A280
        clear A280
        by_cases c29 : t159 < 0
        · rw [if_pos c29] at H
          have c29b0 : decide (t159 < 0) = true := decide_eq_true c29
          clear c29
          obtain rfl := Option.some.inj H
          have hnb30 := NB154_145.out
          have hnc30 := NB145_154.out
          have hcz31_0 : wc.cell? ⟨gb154, 0, none⟩ = some (.int .i64 t146) := (blk_cell BK154.out 0).trans rfl
          have hcz31_1 : wc.cell? ⟨gb154, 1, none⟩ = some (.slice Ao14 t147.length co14) := (blk_cell BK154.out 1).trans rfl
          have hcz31_2 : wc.cell? ⟨gb154, 2, none⟩ = some (.slice Ao15 t150.length co15) := (blk_cell BK154.out 2).trans rfl
          have hfz31_0 := blk_frozen BK154.out 0
          have hfz31_1 := blk_frozen BK154.out 1
          have hfz31_2 := blk_frozen BK154.out 2
          go_wp2_with (first | ((with_reducible refine gate_callee (f := 18) rfl ?_); refine goesL_ (some 32) rfl rfl Try.func18 (by kernel_rfl) rfl #[.agg #[.int .i64 t146, .slice Ao14 t147.length co14, .slice Ao15 t150.length co15], .int .i64 1] rfl (by (try simp only [List.map_toArray, List.map_cons, List.map_nil]); first | done | rfl | (simp only [List.length_drop, List.length_take]; rfl)) ?_; (with_reducible refine (laws_markAges.calls kj3 t146 (fun k_ => some k_ = (.slice Ao14 t147.length co14 : Value).ownBlock) (.slice Ao14 t147.length co14) t147 (fun k_ => some k_ = (.slice Ao15 t150.length co15 : Value).ownBlock) (.slice Ao15 t150.length co15) t150 1 t156 t157 t158 w _ ?side1 ?side2 ?side3 A27.out).mono ?_); (case side1 => repeat (first | (with_reducible first | exact HB.out | apply below_alloc | apply pw_below_drewN | apply below_drew1 | refine below_set ?_ GE145.out | refine below_set ?_ GE154.out) | exact HB.out)); (case side2 => exact Kd.R_tight rfl HO_155001.out); (case side3 => exact Kd.R_tight rfl HO_155002.out); rintro e w32 ⟨rfl, hy0, hy1, hb, hkp⟩; refine ⟨_, rfl, ?_⟩; have n0_ := Aside0.mk (Kd.R_mono (ok' := fun k_ => some k_ ≠ (.slice Ao14 t147.length co14 : Value).ownBlock) (Kd.R_keptB ((Kd.R_apart' HO_146001.out (Kd.R_typed HO_155002.out) (by decide))) hkp (fun k_ hk_ hs_ => Or.elim hs_ (fun e_ => (hk_.1) e_) (fun e_ => (hk_.2) e_))) (fun k_ hk_ => hk_.1.1)); have n1_ := Aside0.mk (Kd.R_mono (ok' := fun k_ => some k_ ≠ (.slice Ao15 t150.length co15 : Value).ownBlock) (Kd.R_keptB ((Kd.R_apart' HO_146002.out (Kd.R_typed HO_155001.out) (by decide))) hkp (fun k_ hk_ hs_ => Or.elim hs_ (fun e_ => (hk_.2) e_) (fun e_ => (hk_.1) e_))) (fun k_ hk_ => hk_.1.1)); have n2_ := Aside0.mk (Kd.R_reok rfl hy0 (fun k_ e_ => HO_155001.out.1 k_ e_)); have n3_ := Aside0.mk (Kd.R_reok rfl hy1 (fun k_ e_ => HO_155002.out.1 k_ e_)); have n4_ := Aside0.mk (blk_kept (by (with_reducible repeat (first | refine blk_drewN ?_ _ | refine blk_drew ?_ | refine blk_alloc ?_ _)); exact BK145.out) hkp (fun hs_ => Or.elim hs_ (fun e_ => (fun e_ => (Kd.R_ne HO_155001.out BK145.out (by decide)) e_) e_) (fun e_ => (fun e_ => (Kd.R_ne HO_155002.out BK145.out (by decide)) e_) e_))); have n5_ := Aside0.mk (blk_kept (by (with_reducible repeat (first | refine blk_drewN ?_ _ | refine blk_drew ?_ | refine blk_alloc ?_ _)); exact BK154.out) hkp (fun hs_ => Or.elim hs_ (fun e_ => (fun e_ => (Kd.R_ne HO_155001.out BK154.out (by decide)) e_) e_) (fun e_ => (fun e_ => (Kd.R_ne HO_155002.out BK154.out (by decide)) e_) e_))); have n6_ := Aside0.mk (hb); clear HO_146001; clear HO_146002; clear HO_155001; clear HO_155002; clear BK145; clear BK154; clear HB; have HO_146001 := n0_; have HO_146002 := n1_; have HO_155001 := n2_; have HO_155002 := n3_; have BK145 := n4_; have BK154 := n5_; have HB := n6_; clear n0_ n1_ n2_ n3_ n4_ n5_ n6_; (try clear hb); (try clear hkp); (try clear hy0); (try clear hy1); have hcz33_0 : w32.cell? ⟨gb154, 0, none⟩ = some (.int .i64 t146) := (blk_cell BK154.out 0).trans rfl; have hcz33_1 : w32.cell? ⟨gb154, 1, none⟩ = some (.slice Ao14 t147.length co14) := (blk_cell BK154.out 1).trans rfl; have hcz33_2 : w32.cell? ⟨gb154, 2, none⟩ = some (.slice Ao15 t150.length co15) := (blk_cell BK154.out 2).trans rfl; have hfz33_0 := blk_frozen BK154.out 0; have hfz33_1 := blk_frozen BK154.out 1; have hfz33_2 := blk_frozen BK154.out 2) | ((with_reducible refine gate_callee (f := 19) rfl ?_); refine goesL_ (some 35) rfl rfl Try.func19 (by kernel_rfl) rfl #[.agg #[.int .i64 t146, .slice Ao14 t157.length co14, .slice Ao15 t158.length co15], .int .i64 1] rfl (by (try simp only [List.map_toArray, List.map_cons, List.map_nil]); first | done | (rw [show t157.length = t147.length from (Kd.R_reads' HO_155001.out).1.symm, show t158.length = t150.length from (Kd.R_reads' HO_155002.out).1.symm] <;> rfl) | rfl | (simp only [List.length_drop, List.length_take]; rfl)) ?_; (with_reducible refine (laws_heldAges.calls kj3 t146 _ _ t157 _ _ t158 1 t159 _ ?side1 ?side2 ?side3 ?side4 A28.out).mono ?_); (case side1 => repeat (first | exact (Kd.R_reads' HO_155001.out).2.2 | (with_reducible refine Kd.C_alloc ?_ _) | (with_reducible refine Kd.C_drewN ?_ _) | (with_reducible refine Kd.C_drew ?_))); (case side2 => rw [show t157.length = t147.length from (Kd.R_reads' HO_155001.out).1.symm]; exact (Kd.R_reads' HO_155001.out).2.1); (case side3 => repeat (first | exact (Kd.R_reads' HO_155002.out).2.2 | (with_reducible refine Kd.C_alloc ?_ _) | (with_reducible refine Kd.C_drewN ?_ _) | (with_reducible refine Kd.C_drew ?_))); (case side4 => rw [show t158.length = t150.length from (Kd.R_reads' HO_155002.out).1.symm]; exact (Kd.R_reads' HO_155002.out).2.1); rintro e w34 ⟨rfl, hb⟩; refine ⟨_, rfl, ?_⟩; have n0_ := Aside0.mk (Kd.R_below (by (with_reducible repeat (first | apply Kd.R_alloc | apply Kd.R_drewN | apply Kd.R_drew)); exact HO_146001.out) hb); have n1_ := Aside0.mk (Kd.R_below (by (with_reducible repeat (first | apply Kd.R_alloc | apply Kd.R_drewN | apply Kd.R_drew)); exact HO_146002.out) hb); have n2_ := Aside0.mk (Kd.R_below (by (with_reducible repeat (first | apply Kd.R_alloc | apply Kd.R_drewN | apply Kd.R_drew)); exact HO_155001.out) hb); have n3_ := Aside0.mk (Kd.R_below (by (with_reducible repeat (first | apply Kd.R_alloc | apply Kd.R_drewN | apply Kd.R_drew)); exact HO_155002.out) hb); have n4_ := Aside0.mk (blk_below (g := gb145) (o := .cells #[.int .i64 t137, .slice Ao8 t138.length co8, .slice Ao9 t141.length co9] 30 (0, 0)) (by (with_reducible repeat (first | refine blk_drewN ?_ _ | refine blk_drew ?_ | refine blk_alloc ?_ _)); exact BK145.out) hb); have n5_ := Aside0.mk (blk_below (g := gb154) (o := .cells #[.int .i64 t146, .slice Ao14 t147.length co14, .slice Ao15 t150.length co15] 30 (0, 0)) (by (with_reducible repeat (first | refine blk_drewN ?_ _ | refine blk_drew ?_ | refine blk_alloc ?_ _)); exact BK154.out) hb); have n6_ := Aside0.mk (below_step (by repeat (first | (with_reducible first | exact HB.out | apply below_alloc | apply pw_below_drewN | apply below_drew1 | refine below_set ?_ GE145.out | refine below_set ?_ GE154.out) | exact HB.out)) hb); clear HO_146001; clear HO_146002; clear HO_155001; clear HO_155002; clear BK145; clear BK154; clear HB; have HO_146001 := n0_; have HO_146002 := n1_; have HO_155001 := n2_; have HO_155002 := n3_; have BK145 := n4_; have BK154 := n5_; have HB := n6_; clear n0_ n1_ n2_ n3_ n4_ n5_ n6_; (try clear hb); (try clear hb2); (try clear hk); (try clear hi)))
          go_ret
          exact ⟨by first | rfl | (simp [errW_none, errW_some] <;> rfl) | (simp [*, errW_none, errW_some] <;> rfl), by repeat (first | (with_reducible first | exact HB.out | apply below_alloc | apply pw_below_drewN | apply below_drew1 | refine below_set ?_ GE145.out | refine below_set ?_ GE154.out) | exact HB.out)⟩
        · rw [if_neg c29] at H
          have c29b0 : decide (t159 < 0) = false := decide_eq_false c29
          clear c29
          by_cases c35 : t159 = t156
          · rw [if_pos c35] at H
            have c35b0 : (t159 == t156) = true := beq_iff_eq.mpr c35
            have c35b1 : (t159 != t156) = false := bne_eq_false_iff_eq.mpr c35
            clear c35
            replace H := Option.bind_eq_some_iff.mp H
            obtain ⟨⟨t160, t161, t164, t167⟩, A360, H⟩ := H
            replace H : ((laws_eqAges.f kj3 t160 t161 t164 t137 t138 t141).bind fun t169 => (if t169 = true then (laws_FnExactAgesNew.j1 kj3 t156 (t167 != t144) t146 t157 t158) else (laws_FnExactAgesNew.j1 kj3 t156 true t146 t157 t158))) = some r := H
            have A36 := Aside0.mk A360
            clear A360
            have HC37 := Aside0.mk H
            clear H
            have hnb38 := NB154_145.out
            have hnc38 := NB145_154.out
            have hcz39_0 : wc.cell? ⟨gb154, 0, none⟩ = some (.int .i64 t146) := (blk_cell BK154.out 0).trans rfl
            have hcz39_1 : wc.cell? ⟨gb154, 1, none⟩ = some (.slice Ao14 t147.length co14) := (blk_cell BK154.out 1).trans rfl
            have hcz39_2 : wc.cell? ⟨gb154, 2, none⟩ = some (.slice Ao15 t150.length co15) := (blk_cell BK154.out 2).trans rfl
            have hfz39_0 := blk_frozen BK154.out 0
            have hfz39_1 := blk_frozen BK154.out 1
            have hfz39_2 := blk_frozen BK154.out 2
            go_upto_region 14 with (first | ((with_reducible refine gate_callee (f := 18) rfl ?_); refine goesL_ (some 32) rfl rfl Try.func18 (by kernel_rfl) rfl #[.agg #[.int .i64 t146, .slice Ao14 t147.length co14, .slice Ao15 t150.length co15], .int .i64 1] rfl (by (try simp only [List.map_toArray, List.map_cons, List.map_nil]); first | done | rfl | (simp only [List.length_drop, List.length_take]; rfl)) ?_; (with_reducible refine (laws_markAges.calls kj3 t146 (fun k_ => some k_ = (.slice Ao14 t147.length co14 : Value).ownBlock) (.slice Ao14 t147.length co14) t147 (fun k_ => some k_ = (.slice Ao15 t150.length co15 : Value).ownBlock) (.slice Ao15 t150.length co15) t150 1 t156 t157 t158 w _ ?side1 ?side2 ?side3 A27.out).mono ?_); (case side1 => repeat (first | (with_reducible first | exact HB.out | apply below_alloc | apply pw_below_drewN | apply below_drew1 | refine below_set ?_ GE145.out | refine below_set ?_ GE154.out) | exact HB.out)); (case side2 => exact Kd.R_tight rfl HO_155001.out); (case side3 => exact Kd.R_tight rfl HO_155002.out); rintro e w40 ⟨rfl, hy0, hy1, hb, hkp⟩; refine ⟨_, rfl, ?_⟩; have n0_ := Aside0.mk (Kd.R_mono (ok' := fun k_ => some k_ ≠ (.slice Ao14 t147.length co14 : Value).ownBlock) (Kd.R_keptB ((Kd.R_apart' HO_146001.out (Kd.R_typed HO_155002.out) (by decide))) hkp (fun k_ hk_ hs_ => Or.elim hs_ (fun e_ => (hk_.1) e_) (fun e_ => (hk_.2) e_))) (fun k_ hk_ => hk_.1.1)); have n1_ := Aside0.mk (Kd.R_mono (ok' := fun k_ => some k_ ≠ (.slice Ao15 t150.length co15 : Value).ownBlock) (Kd.R_keptB ((Kd.R_apart' HO_146002.out (Kd.R_typed HO_155001.out) (by decide))) hkp (fun k_ hk_ hs_ => Or.elim hs_ (fun e_ => (hk_.2) e_) (fun e_ => (hk_.1) e_))) (fun k_ hk_ => hk_.1.1)); have n2_ := Aside0.mk (Kd.R_reok rfl hy0 (fun k_ e_ => HO_155001.out.1 k_ e_)); have n3_ := Aside0.mk (Kd.R_reok rfl hy1 (fun k_ e_ => HO_155002.out.1 k_ e_)); have n4_ := Aside0.mk (blk_kept (by (with_reducible repeat (first | refine blk_drewN ?_ _ | refine blk_drew ?_ | refine blk_alloc ?_ _)); exact BK145.out) hkp (fun hs_ => Or.elim hs_ (fun e_ => (fun e_ => (Kd.R_ne HO_155001.out BK145.out (by decide)) e_) e_) (fun e_ => (fun e_ => (Kd.R_ne HO_155002.out BK145.out (by decide)) e_) e_))); have n5_ := Aside0.mk (blk_kept (by (with_reducible repeat (first | refine blk_drewN ?_ _ | refine blk_drew ?_ | refine blk_alloc ?_ _)); exact BK154.out) hkp (fun hs_ => Or.elim hs_ (fun e_ => (fun e_ => (Kd.R_ne HO_155001.out BK154.out (by decide)) e_) e_) (fun e_ => (fun e_ => (Kd.R_ne HO_155002.out BK154.out (by decide)) e_) e_))); have n6_ := Aside0.mk (hb); clear HO_146001; clear HO_146002; clear HO_155001; clear HO_155002; clear BK145; clear BK154; clear HB; have HO_146001 := n0_; have HO_146002 := n1_; have HO_155001 := n2_; have HO_155002 := n3_; have BK145 := n4_; have BK154 := n5_; have HB := n6_; clear n0_ n1_ n2_ n3_ n4_ n5_ n6_; (try clear hb); (try clear hkp); (try clear hy0); (try clear hy1); have hcz41_0 : w40.cell? ⟨gb154, 0, none⟩ = some (.int .i64 t146) := (blk_cell BK154.out 0).trans rfl; have hcz41_1 : w40.cell? ⟨gb154, 1, none⟩ = some (.slice Ao14 t147.length co14) := (blk_cell BK154.out 1).trans rfl; have hcz41_2 : w40.cell? ⟨gb154, 2, none⟩ = some (.slice Ao15 t150.length co15) := (blk_cell BK154.out 2).trans rfl; have hfz41_0 := blk_frozen BK154.out 0; have hfz41_1 := blk_frozen BK154.out 1; have hfz41_2 := blk_frozen BK154.out 2) | ((with_reducible refine gate_callee (f := 19) rfl ?_); refine goesL_ (some 35) rfl rfl Try.func19 (by kernel_rfl) rfl #[.agg #[.int .i64 t146, .slice Ao14 t157.length co14, .slice Ao15 t158.length co15], .int .i64 1] rfl (by (try simp only [List.map_toArray, List.map_cons, List.map_nil]); first | done | (rw [show t157.length = t147.length from (Kd.R_reads' HO_155001.out).1.symm, show t158.length = t150.length from (Kd.R_reads' HO_155002.out).1.symm] <;> rfl) | rfl | (simp only [List.length_drop, List.length_take]; rfl)) ?_; (with_reducible refine (laws_heldAges.calls kj3 t146 _ _ t157 _ _ t158 1 t159 _ ?side1 ?side2 ?side3 ?side4 A28.out).mono ?_); (case side1 => repeat (first | exact (Kd.R_reads' HO_155001.out).2.2 | (with_reducible refine Kd.C_alloc ?_ _) | (with_reducible refine Kd.C_drewN ?_ _) | (with_reducible refine Kd.C_drew ?_))); (case side2 => rw [show t157.length = t147.length from (Kd.R_reads' HO_155001.out).1.symm]; exact (Kd.R_reads' HO_155001.out).2.1); (case side3 => repeat (first | exact (Kd.R_reads' HO_155002.out).2.2 | (with_reducible refine Kd.C_alloc ?_ _) | (with_reducible refine Kd.C_drewN ?_ _) | (with_reducible refine Kd.C_drew ?_))); (case side4 => rw [show t158.length = t150.length from (Kd.R_reads' HO_155002.out).1.symm]; exact (Kd.R_reads' HO_155002.out).2.1); rintro e w42 ⟨rfl, hb⟩; refine ⟨_, rfl, ?_⟩; have n0_ := Aside0.mk (Kd.R_below (by (with_reducible repeat (first | apply Kd.R_alloc | apply Kd.R_drewN | apply Kd.R_drew)); exact HO_146001.out) hb); have n1_ := Aside0.mk (Kd.R_below (by (with_reducible repeat (first | apply Kd.R_alloc | apply Kd.R_drewN | apply Kd.R_drew)); exact HO_146002.out) hb); have n2_ := Aside0.mk (Kd.R_below (by (with_reducible repeat (first | apply Kd.R_alloc | apply Kd.R_drewN | apply Kd.R_drew)); exact HO_155001.out) hb); have n3_ := Aside0.mk (Kd.R_below (by (with_reducible repeat (first | apply Kd.R_alloc | apply Kd.R_drewN | apply Kd.R_drew)); exact HO_155002.out) hb); have n4_ := Aside0.mk (blk_below (g := gb145) (o := .cells #[.int .i64 t137, .slice Ao8 t138.length co8, .slice Ao9 t141.length co9] 30 (0, 0)) (by (with_reducible repeat (first | refine blk_drewN ?_ _ | refine blk_drew ?_ | refine blk_alloc ?_ _)); exact BK145.out) hb); have n5_ := Aside0.mk (blk_below (g := gb154) (o := .cells #[.int .i64 t146, .slice Ao14 t147.length co14, .slice Ao15 t150.length co15] 30 (0, 0)) (by (with_reducible repeat (first | refine blk_drewN ?_ _ | refine blk_drew ?_ | refine blk_alloc ?_ _)); exact BK154.out) hb); have n6_ := Aside0.mk (below_step (by repeat (first | (with_reducible first | exact HB.out | apply below_alloc | apply pw_below_drewN | apply below_drew1 | refine below_set ?_ GE145.out | refine below_set ?_ GE154.out) | exact HB.out)) hb); clear HO_146001; clear HO_146002; clear HO_155001; clear HO_155002; clear BK145; clear BK154; clear HB; have HO_146001 := n0_; have HO_146002 := n1_; have HO_155001 := n2_; have HO_155002 := n3_; have BK145 := n4_; have BK154 := n5_; have HB := n6_; clear n0_ n1_ n2_ n3_ n4_ n5_ n6_; (try clear hb); (try clear hb2); (try clear hk); (try clear hi)) | ((with_reducible refine gate_callee (f := 17) rfl ?_); refine goesL_ (some 43) rfl rfl Try.func17 (by kernel_rfl) rfl #[.int .i64 a0] rfl (by (try simp only [List.map_toArray, List.map_cons, List.map_nil]); first | done | rfl | (simp only [List.length_drop, List.length_take]; rfl)) ?_; (with_reducible refine (impl_AgesNew.calls kj3 a0 t160 t161 t164 t167 _ A36.out).mono ?_); rintro e w43 ⟨v162, v165, rfl, ho0, ho1, hb⟩; refine ⟨_, rfl, ?_⟩; have n0_ := Aside0.mk (Kd.R_elder' (by (with_reducible repeat (first | apply Kd.R_alloc | apply Kd.R_drewN | apply Kd.R_drew)); exact HO_146001.out) (Kd.R_base ho0) hb); have n1_ := Aside0.mk (Kd.R_elder' (by (with_reducible repeat (first | apply Kd.R_alloc | apply Kd.R_drewN | apply Kd.R_drew)); exact HO_146002.out) (Kd.R_base ho1) hb); have n2_ := Aside0.mk (Kd.R_elder' (by (with_reducible repeat (first | apply Kd.R_alloc | apply Kd.R_drewN | apply Kd.R_drew)); exact HO_155001.out) (Kd.R_base ho0) hb); have n3_ := Aside0.mk (Kd.R_elder' (by (with_reducible repeat (first | apply Kd.R_alloc | apply Kd.R_drewN | apply Kd.R_drew)); exact HO_155002.out) (Kd.R_base ho1) hb); have n4_ := Aside0.mk (Kd.R_lower (Kd.R_new' (Kd.R_new' ho0 (Kd.R_lt (by (with_reducible repeat (first | apply Kd.R_alloc | apply Kd.R_drewN | apply Kd.R_drew)); exact HO_146001.out))) (Kd.R_lt (by (with_reducible repeat (first | apply Kd.R_alloc | apply Kd.R_drewN | apply Kd.R_drew)); exact HO_155001.out))) (below_size (by repeat (first | (with_reducible first | exact HB.out | apply below_alloc | apply pw_below_drewN | apply below_drew1 | refine below_set ?_ GE145.out | refine below_set ?_ GE154.out) | exact HB.out)))); have n5_ := Aside0.mk (Kd.R_lower (Kd.R_new' (Kd.R_new' ho1 (Kd.R_lt (by (with_reducible repeat (first | apply Kd.R_alloc | apply Kd.R_drewN | apply Kd.R_drew)); exact HO_146002.out))) (Kd.R_lt (by (with_reducible repeat (first | apply Kd.R_alloc | apply Kd.R_drewN | apply Kd.R_drew)); exact HO_155002.out))) (below_size (by repeat (first | (with_reducible first | exact HB.out | apply below_alloc | apply pw_below_drewN | apply below_drew1 | refine below_set ?_ GE145.out | refine below_set ?_ GE154.out) | exact HB.out)))); have n6_ := Aside0.mk (blk_below (g := gb145) (o := .cells #[.int .i64 t137, .slice Ao8 t138.length co8, .slice Ao9 t141.length co9] 30 (0, 0)) (by (with_reducible repeat (first | refine blk_drewN ?_ _ | refine blk_drew ?_ | refine blk_alloc ?_ _)); exact BK145.out) hb); have n7_ := Aside0.mk (blk_below (g := gb154) (o := .cells #[.int .i64 t146, .slice Ao14 t147.length co14, .slice Ao15 t150.length co15] 30 (0, 0)) (by (with_reducible repeat (first | refine blk_drewN ?_ _ | refine blk_drew ?_ | refine blk_alloc ?_ _)); exact BK154.out) hb); have n8_ := Aside0.mk (below_step (by repeat (first | (with_reducible first | exact HB.out | apply below_alloc | apply pw_below_drewN | apply below_drew1 | refine below_set ?_ GE145.out | refine below_set ?_ GE154.out) | exact HB.out)) hb); clear HO_146001; clear HO_146002; clear HO_155001; clear HO_155002; clear BK145; clear BK154; clear HB; have HO_146001 := n0_; have HO_146002 := n1_; have HO_155001 := n2_; have HO_155002 := n3_; have HO163 := n4_; have HO166 := n5_; have BK145 := n6_; have BK154 := n7_; have HB := n8_; clear n0_ n1_ n2_ n3_ n4_ n5_ n6_ n7_ n8_; (try clear hb); (try clear hb2); (try clear hk); (try clear hi); (try clear ho0); (try clear ho1)) | ((with_reducible refine gate_dst (N := 9) rfl ?_); refine box_event ?hg (N := 9) ?hd (cs := #[.int .i64 0, .slice none 0 0, .slice none 0 0]) (t := 30) ?hr ?_; (case hd => rfl); (case hg => rfl); (case hr => first | (go_simp; done) | (go_simp; rfl)); intro gb168 hg w44 hbox hb; have n0_ := Aside0.mk (Kd.R_below (by (with_reducible repeat (first | apply Kd.R_alloc | apply Kd.R_drewN | apply Kd.R_drew)); exact HO_146001.out) hb); have n1_ := Aside0.mk (Kd.R_below (by (with_reducible repeat (first | apply Kd.R_alloc | apply Kd.R_drewN | apply Kd.R_drew)); exact HO_146002.out) hb); have n2_ := Aside0.mk (Kd.R_below (by (with_reducible repeat (first | apply Kd.R_alloc | apply Kd.R_drewN | apply Kd.R_drew)); exact HO_155001.out) hb); have n3_ := Aside0.mk (Kd.R_below (by (with_reducible repeat (first | apply Kd.R_alloc | apply Kd.R_drewN | apply Kd.R_drew)); exact HO_155002.out) hb); have n4_ := Aside0.mk (Kd.R_below (by (with_reducible repeat (first | apply Kd.R_alloc | apply Kd.R_drewN | apply Kd.R_drew)); exact HO163.out) hb); have n5_ := Aside0.mk (Kd.R_below (by (with_reducible repeat (first | apply Kd.R_alloc | apply Kd.R_drewN | apply Kd.R_drew)); exact HO166.out) hb); have n6_ := Aside0.mk (blk_below (g := gb145) (o := .cells #[.int .i64 t137, .slice Ao8 t138.length co8, .slice Ao9 t141.length co9] 30 (0, 0)) (by (with_reducible repeat (first | refine blk_drewN ?_ _ | refine blk_drew ?_ | refine blk_alloc ?_ _)); exact BK145.out) hb); have n7_ := Aside0.mk (blk_below (g := gb154) (o := .cells #[.int .i64 t146, .slice Ao14 t147.length co14, .slice Ao15 t150.length co15] 30 (0, 0)) (by (with_reducible repeat (first | refine blk_drewN ?_ _ | refine blk_drew ?_ | refine blk_alloc ?_ _)); exact BK154.out) hb); have n8_ := Aside0.mk (below_step (by repeat (first | (with_reducible first | exact HB.out | apply below_alloc | apply pw_below_drewN | apply below_drew1 | refine below_set ?_ GE145.out | refine below_set ?_ GE154.out) | exact HB.out)) hb); have n9_ := Aside0.mk (hbox); have n10_ := Aside0.mk ((by rw [hg]; exact (below_size (by repeat (first | (with_reducible first | exact HB.out | apply below_alloc | apply pw_below_drewN | apply below_drew1 | refine below_set ?_ GE145.out | refine below_set ?_ GE154.out) | exact HB.out))) : w.heap.size ≤ gb168)); have n11_ := Aside0.mk ((by rw [hg]; exact (below_size (by repeat (first | (with_reducible first | exact HB.out | apply below_alloc | apply pw_below_drewN | apply below_drew1 | refine below_set ?_ GE145.out | refine below_set ?_ GE154.out) | exact HB.out))) : w.heap.size ≤ gb168)); have n12_ := Aside0.mk ((by rw [hg]; exact Nat.ne_of_lt (blk_lt (g := gb145) (o := .cells #[.int .i64 t137, .slice Ao8 t138.length co8, .slice Ao9 t141.length co9] 30 (0, 0)) (by (with_reducible repeat (first | refine blk_drewN ?_ _ | refine blk_drew ?_ | refine blk_alloc ?_ _)); exact BK145.out)) : gb145 ≠ gb168)); have n13_ := Aside0.mk ((by rw [hg]; exact Nat.ne_of_gt (blk_lt (g := gb145) (o := .cells #[.int .i64 t137, .slice Ao8 t138.length co8, .slice Ao9 t141.length co9] 30 (0, 0)) (by (with_reducible repeat (first | refine blk_drewN ?_ _ | refine blk_drew ?_ | refine blk_alloc ?_ _)); exact BK145.out)) : gb168 ≠ gb145)); have n14_ := Aside0.mk ((by rw [hg]; exact Nat.ne_of_lt (blk_lt (g := gb154) (o := .cells #[.int .i64 t146, .slice Ao14 t147.length co14, .slice Ao15 t150.length co15] 30 (0, 0)) (by (with_reducible repeat (first | refine blk_drewN ?_ _ | refine blk_drew ?_ | refine blk_alloc ?_ _)); exact BK154.out)) : gb154 ≠ gb168)); have n15_ := Aside0.mk ((by rw [hg]; exact Nat.ne_of_gt (blk_lt (g := gb154) (o := .cells #[.int .i64 t146, .slice Ao14 t147.length co14, .slice Ao15 t150.length co15] 30 (0, 0)) (by (with_reducible repeat (first | refine blk_drewN ?_ _ | refine blk_drew ?_ | refine blk_alloc ?_ _)); exact BK154.out)) : gb168 ≠ gb154)); clear HO_146001; clear HO_146002; clear HO_155001; clear HO_155002; clear HO163; clear HO166; clear BK145; clear BK154; clear HB; have HO_146001 := n0_; have HO_146002 := n1_; have HO_155001 := n2_; have HO_155002 := n3_; have HO163 := n4_; have HO166 := n5_; have BK145 := n6_; have BK154 := n7_; have HB := n8_; have BK168 := n9_; have GW168 := n10_; have GE168 := n11_; have NB145_168 := n12_; have NB168_145 := n13_; have NB154_168 := n14_; have NB168_154 := n15_; clear n0_ n1_ n2_ n3_ n4_ n5_ n6_ n7_ n8_ n9_ n10_ n11_ n12_ n13_ n14_ n15_; clear hb hbox hg; have hnb45 := NB168_145.out; have hnc45 := NB145_168.out; have hnb46 := NB168_154.out; have hnc46 := NB154_168.out; have hcz47_0 : w44.cell? ⟨gb168, 0, none⟩ = some (.int .i64 0) := (blk_cell BK168.out 0).trans rfl; have hcz47_1 : w44.cell? ⟨gb168, 1, none⟩ = some (.slice none 0 0) := (blk_cell BK168.out 1).trans rfl; have hcz47_2 : w44.cell? ⟨gb168, 2, none⟩ = some (.slice none 0 0) := (blk_cell BK168.out 2).trans rfl; have hfz47_0 := blk_frozen BK168.out 0; have hfz47_1 := blk_frozen BK168.out 1; have hfz47_2 := blk_frozen BK168.out 2; obtain ⟨Ao48, co48, eo48⟩ := Kd.R_slice HO163.out; subst eo48; obtain ⟨Ao49, co49, eo49⟩ := Kd.R_slice HO166.out; subst eo49))
            (try simp only [Act.put, List.setIfInBounds_toArray, List.set_cons_zero, List.set_cons_succ])
            go_cut [54] (fun v54 wc => ∃ (kq : Nat) (x54_36 : Bool), v54 = .bool x54_36 ∧ Aside0 (laws_FnExactAgesNew.j1 kq t156 x54_36 t146 t157 t158 = some r) ∧ Aside0 (kq ≤ kj3) ∧ Aside0 (Kd.R (Kd.int .i64) 3 wc w.heap.size (fun k_ => some k_ ≠ ((.slice Ao14 t147.length co14) : Value).ownBlock ∧ some k_ ≠ ((.slice Ao48 t161.length co48) : Value).ownBlock) (.slice Ao8 t138.length co8) t138) ∧ Aside0 (Kd.R k48 48 wc w.heap.size (fun k_ => some k_ ≠ ((.slice Ao15 t150.length co15) : Value).ownBlock ∧ some k_ ≠ ((.slice Ao49 t164.length co49) : Value).ownBlock) (.slice Ao9 t141.length co9) t141) ∧ Aside0 (Kd.R (Kd.int .i64) 3 wc w.heap.size (fun k_ => some k_ ≠ ((.slice Ao8 t138.length co8) : Value).ownBlock ∧ some k_ ≠ ((.slice Ao48 t161.length co48) : Value).ownBlock) (.slice Ao14 t147.length co14) t157) ∧ Aside0 (Kd.R k48 48 wc w.heap.size (fun k_ => some k_ ≠ ((.slice Ao9 t141.length co9) : Value).ownBlock ∧ some k_ ≠ ((.slice Ao49 t164.length co49) : Value).ownBlock) (.slice Ao15 t150.length co15) t158) ∧ Aside0 (Kd.R (Kd.int .i64) 3 wc w.heap.size (fun k_ => some k_ ≠ ((.slice Ao8 t138.length co8) : Value).ownBlock ∧ some k_ ≠ ((.slice Ao14 t147.length co14) : Value).ownBlock) (.slice Ao48 t161.length co48) t161) ∧ Aside0 (Kd.R k48 48 wc w.heap.size (fun k_ => some k_ ≠ ((.slice Ao9 t141.length co9) : Value).ownBlock ∧ some k_ ≠ ((.slice Ao15 t150.length co15) : Value).ownBlock) (.slice Ao49 t164.length co49) t164) ∧ Aside0 (wc.heap[gb145]? = some (.cells #[.int .i64 t137, (.slice Ao8 t138.length co8), (.slice Ao9 t141.length co9)] 30 (0, 0))) ∧ Aside0 (wc.heap[gb154]? = some (.cells #[.int .i64 t146, (.slice Ao14 t147.length co14), (.slice Ao15 t150.length co15)] 30 (0, 0))) ∧ Aside0 (wc.heap[gb168]? = some (.cells #[.int .i64 t160, (.slice Ao48 t161.length co48), (.slice Ao49 t164.length co49)] 30 (0, 0))) ∧ Aside0 (Below w.heap.size w wc))
            case first =>
              have H := HC37.out
              clear HC37
              replace H := Option.bind_eq_some_iff.mp H
              obtain ⟨t169, A500, H⟩ := H
              replace H : (if t169 = true then (laws_FnExactAgesNew.j1 kj3 t156 (t167 != t144) t146 t157 t158) else (laws_FnExactAgesNew.j1 kj3 t156 true t146 t157 t158)) = some r := H
              have A50 := Aside0.mk A500
              clear A500
              by_cases c51 : t169 = true
              · subst c51
                have H1 : (laws_FnExactAgesNew.j1 kj3 t156 (t167 != t144) t146 t157 t158) = some r := by rw [if_pos rfl] at H; exact H
                clear H
                have H := H1
                clear H1
                have H' := Aside0.mk H
                clear H
                have hnb52 := NB168_145.out
                have hnc52 := NB145_168.out
                have hnb53 := NB168_154.out
                have hnc53 := NB154_168.out
                have hcz54_0 : w44.cell? ⟨gb168, 0, none⟩ = some (.int .i64 0) := (blk_cell BK168.out 0).trans rfl
                have hcz54_1 : w44.cell? ⟨gb168, 1, none⟩ = some (.slice none 0 0) := (blk_cell BK168.out 1).trans rfl
                have hcz54_2 : w44.cell? ⟨gb168, 2, none⟩ = some (.slice none 0 0) := (blk_cell BK168.out 2).trans rfl
                have hfz54_0 := blk_frozen BK168.out 0
                have hfz54_1 := blk_frozen BK168.out 1
                have hfz54_2 := blk_frozen BK168.out 2
                have hnb55 := NB145_154.out
                have hnc55 := NB154_145.out
                have hcz56_0 : w44.cell? ⟨gb145, 0, none⟩ = some (.int .i64 t137) := (blk_cell BK145.out 0).trans rfl
                have hcz56_1 : w44.cell? ⟨gb145, 1, none⟩ = some (.slice Ao8 t138.length co8) := (blk_cell BK145.out 1).trans rfl
                have hcz56_2 : w44.cell? ⟨gb145, 2, none⟩ = some (.slice Ao9 t141.length co9) := (blk_cell BK145.out 2).trans rfl
                have hfz56_0 := blk_frozen BK145.out 0
                have hfz56_1 := blk_frozen BK145.out 1
                have hfz56_2 := blk_frozen BK145.out 2
                go_wp2_with (first | ((with_reducible refine gate_callee (f := 15) rfl ?_); refine goesL_ (some 48) rfl rfl Try.func15 (by kernel_rfl) rfl #[.agg #[.int .i64 t160, .slice Ao48 t161.length co48, .slice Ao49 t164.length co49], .agg #[.int .i64 t137, .slice Ao8 t138.length co8, .slice Ao9 t141.length co9]] rfl (by (try simp only [List.map_toArray, List.map_cons, List.map_nil]); first | done | rfl | (simp only [List.length_drop, List.length_take]; rfl)) ?_; (with_reducible refine (laws_eqAges.calls kj3 t160 _ _ t161 _ _ t164 t137 _ _ t138 _ _ t141 true _ ?side1 ?side2 ?side3 ?side4 ?side5 ?side6 ?side7 ?side8 A50.out).mono ?_); (case side1 => refine (Kd.R_reads' (e := 3) (base := w.heap.size) (ok := fun k_ => ((True ∧ some k_ ≠ (.slice Ao8 t138.length co8 : Value).ownBlock) ∧ some k_ ≠ (.slice Ao14 t147.length co14 : Value).ownBlock)) (n := t161.length) (c := co48) ?_).2.2; exact (by (with_reducible repeat (first | apply Kd.R_alloc | apply Kd.R_drewN | apply Kd.R_drew)); exact (Kd.R_mono (Kd.R_far (p := ⟨gb168, 2, none⟩) (Kd.R_far (p := ⟨gb168, 1, none⟩) (Kd.R_far (p := ⟨gb168, 0, none⟩) (Kd.R_types HO163.out BK168.out (by decide)) (fun _ hk => hk.2) (.int .i64 t160)) (fun _ hk => hk.2) (.slice Ao48 t161.length co48)) (fun _ hk => hk.2) (.slice Ao49 t164.length co49)) (fun _ h_ => h_.1)))); (case side2 => exact (Kd.R_reads' HO163.out).2.1); (case side3 => refine (Kd.R_reads' (e := 48) (base := w.heap.size) (ok := fun k_ => ((True ∧ some k_ ≠ (.slice Ao9 t141.length co9 : Value).ownBlock) ∧ some k_ ≠ (.slice Ao15 t150.length co15 : Value).ownBlock)) (n := t164.length) (c := co49) ?_).2.2; exact (by (with_reducible repeat (first | apply Kd.R_alloc | apply Kd.R_drewN | apply Kd.R_drew)); exact (Kd.R_mono (Kd.R_far (p := ⟨gb168, 2, none⟩) (Kd.R_far (p := ⟨gb168, 1, none⟩) (Kd.R_far (p := ⟨gb168, 0, none⟩) (Kd.R_types HO166.out BK168.out (by decide)) (fun _ hk => hk.2) (.int .i64 t160)) (fun _ hk => hk.2) (.slice Ao48 t161.length co48)) (fun _ hk => hk.2) (.slice Ao49 t164.length co49)) (fun _ h_ => h_.1)))); (case side4 => exact (Kd.R_reads' HO166.out).2.1); (case side5 => refine (Kd.R_reads' (e := 3) (base := w.heap.size) (ok := fun k_ => (some k_ ≠ (.slice Ao14 t147.length co14 : Value).ownBlock ∧ some k_ ≠ (.slice Ao48 t161.length co48 : Value).ownBlock)) (n := t138.length) (c := co8) ?_).2.2; exact (by (with_reducible repeat (first | apply Kd.R_alloc | apply Kd.R_drewN | apply Kd.R_drew)); exact (Kd.R_mono (Kd.R_far (p := ⟨gb168, 2, none⟩) (Kd.R_far (p := ⟨gb168, 1, none⟩) (Kd.R_far (p := ⟨gb168, 0, none⟩) (Kd.R_types HO_146001.out BK168.out (by decide)) (fun _ hk => hk.2) (.int .i64 t160)) (fun _ hk => hk.2) (.slice Ao48 t161.length co48)) (fun _ hk => hk.2) (.slice Ao49 t164.length co49)) (fun _ h_ => h_.1)))); (case side6 => exact (Kd.R_reads' HO_146001.out).2.1); (case side7 => refine (Kd.R_reads' (e := 48) (base := w.heap.size) (ok := fun k_ => (some k_ ≠ (.slice Ao15 t150.length co15 : Value).ownBlock ∧ some k_ ≠ (.slice Ao49 t164.length co49 : Value).ownBlock)) (n := t141.length) (c := co9) ?_).2.2; exact (by (with_reducible repeat (first | apply Kd.R_alloc | apply Kd.R_drewN | apply Kd.R_drew)); exact (Kd.R_mono (Kd.R_far (p := ⟨gb168, 2, none⟩) (Kd.R_far (p := ⟨gb168, 1, none⟩) (Kd.R_far (p := ⟨gb168, 0, none⟩) (Kd.R_types HO_146002.out BK168.out (by decide)) (fun _ hk => hk.2) (.int .i64 t160)) (fun _ hk => hk.2) (.slice Ao48 t161.length co48)) (fun _ hk => hk.2) (.slice Ao49 t164.length co49)) (fun _ h_ => h_.1)))); (case side8 => exact (Kd.R_reads' HO_146002.out).2.1); rintro e w57 ⟨rfl, hb⟩; refine ⟨_, rfl, ?_⟩; have n0_ := Aside0.mk (Kd.R_below (by (with_reducible repeat (first | apply Kd.R_alloc | apply Kd.R_drewN | apply Kd.R_drew)); exact (Kd.R_mono (Kd.R_far (p := ⟨gb168, 2, none⟩) (Kd.R_far (p := ⟨gb168, 1, none⟩) (Kd.R_far (p := ⟨gb168, 0, none⟩) (Kd.R_types HO_146001.out BK168.out (by decide)) (fun _ hk => hk.2) (.int .i64 t160)) (fun _ hk => hk.2) (.slice Ao48 t161.length co48)) (fun _ hk => hk.2) (.slice Ao49 t164.length co49)) (fun _ h_ => h_.1))) hb); have n1_ := Aside0.mk (Kd.R_below (by (with_reducible repeat (first | apply Kd.R_alloc | apply Kd.R_drewN | apply Kd.R_drew)); exact (Kd.R_mono (Kd.R_far (p := ⟨gb168, 2, none⟩) (Kd.R_far (p := ⟨gb168, 1, none⟩) (Kd.R_far (p := ⟨gb168, 0, none⟩) (Kd.R_types HO_146002.out BK168.out (by decide)) (fun _ hk => hk.2) (.int .i64 t160)) (fun _ hk => hk.2) (.slice Ao48 t161.length co48)) (fun _ hk => hk.2) (.slice Ao49 t164.length co49)) (fun _ h_ => h_.1))) hb); have n2_ := Aside0.mk (Kd.R_below (by (with_reducible repeat (first | apply Kd.R_alloc | apply Kd.R_drewN | apply Kd.R_drew)); exact (Kd.R_mono (Kd.R_far (p := ⟨gb168, 2, none⟩) (Kd.R_far (p := ⟨gb168, 1, none⟩) (Kd.R_far (p := ⟨gb168, 0, none⟩) (Kd.R_types HO_155001.out BK168.out (by decide)) (fun _ hk => hk.2) (.int .i64 t160)) (fun _ hk => hk.2) (.slice Ao48 t161.length co48)) (fun _ hk => hk.2) (.slice Ao49 t164.length co49)) (fun _ h_ => h_.1))) hb); have n3_ := Aside0.mk (Kd.R_below (by (with_reducible repeat (first | apply Kd.R_alloc | apply Kd.R_drewN | apply Kd.R_drew)); exact (Kd.R_mono (Kd.R_far (p := ⟨gb168, 2, none⟩) (Kd.R_far (p := ⟨gb168, 1, none⟩) (Kd.R_far (p := ⟨gb168, 0, none⟩) (Kd.R_types HO_155002.out BK168.out (by decide)) (fun _ hk => hk.2) (.int .i64 t160)) (fun _ hk => hk.2) (.slice Ao48 t161.length co48)) (fun _ hk => hk.2) (.slice Ao49 t164.length co49)) (fun _ h_ => h_.1))) hb); have n4_ := Aside0.mk (Kd.R_below (by (with_reducible repeat (first | apply Kd.R_alloc | apply Kd.R_drewN | apply Kd.R_drew)); exact (Kd.R_mono (Kd.R_far (p := ⟨gb168, 2, none⟩) (Kd.R_far (p := ⟨gb168, 1, none⟩) (Kd.R_far (p := ⟨gb168, 0, none⟩) (Kd.R_types HO163.out BK168.out (by decide)) (fun _ hk => hk.2) (.int .i64 t160)) (fun _ hk => hk.2) (.slice Ao48 t161.length co48)) (fun _ hk => hk.2) (.slice Ao49 t164.length co49)) (fun _ h_ => h_.1))) hb); have n5_ := Aside0.mk (Kd.R_below (by (with_reducible repeat (first | apply Kd.R_alloc | apply Kd.R_drewN | apply Kd.R_drew)); exact (Kd.R_mono (Kd.R_far (p := ⟨gb168, 2, none⟩) (Kd.R_far (p := ⟨gb168, 1, none⟩) (Kd.R_far (p := ⟨gb168, 0, none⟩) (Kd.R_types HO166.out BK168.out (by decide)) (fun _ hk => hk.2) (.int .i64 t160)) (fun _ hk => hk.2) (.slice Ao48 t161.length co48)) (fun _ hk => hk.2) (.slice Ao49 t164.length co49)) (fun _ h_ => h_.1))) hb); have n6_ := Aside0.mk (blk_below (g := gb145) (o := .cells #[.int .i64 t137, .slice Ao8 t138.length co8, .slice Ao9 t141.length co9] 30 (0, 0)) (by (with_reducible repeat (first | refine blk_drewN ?_ _ | refine blk_drew ?_ | refine blk_alloc ?_ _)); refine blk_far ?_ NB145_168.out _; (with_reducible repeat (first | refine blk_drewN ?_ _ | refine blk_drew ?_ | refine blk_alloc ?_ _)); refine blk_far ?_ NB145_168.out _; (with_reducible repeat (first | refine blk_drewN ?_ _ | refine blk_drew ?_ | refine blk_alloc ?_ _)); refine blk_far ?_ NB145_168.out _; (with_reducible repeat (first | refine blk_drewN ?_ _ | refine blk_drew ?_ | refine blk_alloc ?_ _)); exact BK145.out) hb); have n7_ := Aside0.mk (blk_below (g := gb154) (o := .cells #[.int .i64 t146, .slice Ao14 t147.length co14, .slice Ao15 t150.length co15] 30 (0, 0)) (by (with_reducible repeat (first | refine blk_drewN ?_ _ | refine blk_drew ?_ | refine blk_alloc ?_ _)); refine blk_far ?_ NB154_168.out _; (with_reducible repeat (first | refine blk_drewN ?_ _ | refine blk_drew ?_ | refine blk_alloc ?_ _)); refine blk_far ?_ NB154_168.out _; (with_reducible repeat (first | refine blk_drewN ?_ _ | refine blk_drew ?_ | refine blk_alloc ?_ _)); refine blk_far ?_ NB154_168.out _; (with_reducible repeat (first | refine blk_drewN ?_ _ | refine blk_drew ?_ | refine blk_alloc ?_ _)); exact BK154.out) hb); have n8_ := Aside0.mk (blk_below (g := gb168) (o := .cells #[.int .i64 t160, .slice Ao48 t161.length co48, .slice Ao49 t164.length co49] 30 (0, 0)) (by (with_reducible repeat (first | refine blk_drewN ?_ _ | refine blk_drew ?_ | refine blk_alloc ?_ _)); refine blk_put (cs := #[.int .i64 t160, .slice Ao48 t161.length co48, .slice none 0 0]) ?_ 2 _ rfl; (with_reducible repeat (first | refine blk_drewN ?_ _ | refine blk_drew ?_ | refine blk_alloc ?_ _)); refine blk_put (cs := #[.int .i64 t160, .slice none 0 0, .slice none 0 0]) ?_ 1 _ rfl; (with_reducible repeat (first | refine blk_drewN ?_ _ | refine blk_drew ?_ | refine blk_alloc ?_ _)); refine blk_put (cs := #[.int .i64 0, .slice none 0 0, .slice none 0 0]) ?_ 0 _ rfl; (with_reducible repeat (first | refine blk_drewN ?_ _ | refine blk_drew ?_ | refine blk_alloc ?_ _)); exact BK168.out) hb); have n9_ := Aside0.mk (below_step (by repeat (first | (with_reducible first | exact HB.out | apply below_alloc | apply pw_below_drewN | apply below_drew1 | refine below_set ?_ GE145.out | refine below_set ?_ GE154.out | refine below_set ?_ GE168.out) | exact HB.out)) hb); clear HO_146001; clear HO_146002; clear HO_155001; clear HO_155002; clear HO163; clear HO166; clear BK145; clear BK154; clear BK168; clear HB; have HO_146001 := n0_; have HO_146002 := n1_; have HO_155001 := n2_; have HO_155002 := n3_; have HO163 := n4_; have HO166 := n5_; have BK145 := n6_; have BK154 := n7_; have BK168 := n8_; have HB := n9_; clear n0_ n1_ n2_ n3_ n4_ n5_ n6_ n7_ n8_ n9_; (try clear hb); (try clear hb2); (try clear hk); (try clear hi)))
                go_meet
                case rel => exact ⟨_, ((t167 != t144)), (by first | rfl | (simp; done) | (simp [*]; done)), H', ⟨by have := HJ3.out; first | omega | exact Nat.le_refl _⟩, ⟨by (with_reducible repeat (first | apply Kd.R_alloc | apply Kd.R_drewN | apply Kd.R_drew)); exact HO_146001.out⟩, ⟨by (with_reducible repeat (first | apply Kd.R_alloc | apply Kd.R_drewN | apply Kd.R_drew)); exact HO_146002.out⟩, ⟨by (with_reducible repeat (first | apply Kd.R_alloc | apply Kd.R_drewN | apply Kd.R_drew)); exact HO_155001.out⟩, ⟨by (with_reducible repeat (first | apply Kd.R_alloc | apply Kd.R_drewN | apply Kd.R_drew)); exact HO_155002.out⟩, ⟨by (with_reducible repeat (first | apply Kd.R_alloc | apply Kd.R_drewN | apply Kd.R_drew)); exact Kd.R_mono HO163.out (fun _ hk => ⟨hk.1.2, hk.2⟩)⟩, ⟨by (with_reducible repeat (first | apply Kd.R_alloc | apply Kd.R_drewN | apply Kd.R_drew)); exact Kd.R_mono HO166.out (fun _ hk => ⟨hk.1.2, hk.2⟩)⟩, ⟨by (with_reducible repeat (first | refine blk_drewN ?_ _ | refine blk_drew ?_ | refine blk_alloc ?_ _)); exact BK145.out⟩, ⟨by (with_reducible repeat (first | refine blk_drewN ?_ _ | refine blk_drew ?_ | refine blk_alloc ?_ _)); exact BK154.out⟩, ⟨by (with_reducible repeat (first | refine blk_drewN ?_ _ | refine blk_drew ?_ | refine blk_alloc ?_ _)); exact BK168.out⟩, ⟨by repeat (first | (with_reducible first | exact HB.out | apply below_alloc | apply pw_below_drewN | apply below_drew1 | refine below_set ?_ GE145.out | refine below_set ?_ GE154.out | refine below_set ?_ GE168.out) | exact HB.out)⟩⟩
              · replace c51 := Bool.eq_false_iff.mpr c51
                subst c51
                have H1 : (laws_FnExactAgesNew.j1 kj3 t156 true t146 t157 t158) = some r := by rw [if_neg (show ¬ (false = true) by decide)] at H; exact H
                clear H
                have H := H1
                clear H1
                have H' := Aside0.mk H
                clear H
                have hnb58 := NB168_145.out
                have hnc58 := NB145_168.out
                have hnb59 := NB168_154.out
                have hnc59 := NB154_168.out
                have hcz60_0 : w44.cell? ⟨gb168, 0, none⟩ = some (.int .i64 0) := (blk_cell BK168.out 0).trans rfl
                have hcz60_1 : w44.cell? ⟨gb168, 1, none⟩ = some (.slice none 0 0) := (blk_cell BK168.out 1).trans rfl
                have hcz60_2 : w44.cell? ⟨gb168, 2, none⟩ = some (.slice none 0 0) := (blk_cell BK168.out 2).trans rfl
                have hfz60_0 := blk_frozen BK168.out 0
                have hfz60_1 := blk_frozen BK168.out 1
                have hfz60_2 := blk_frozen BK168.out 2
                have hnb61 := NB145_154.out
                have hnc61 := NB154_145.out
                have hcz62_0 : w44.cell? ⟨gb145, 0, none⟩ = some (.int .i64 t137) := (blk_cell BK145.out 0).trans rfl
                have hcz62_1 : w44.cell? ⟨gb145, 1, none⟩ = some (.slice Ao8 t138.length co8) := (blk_cell BK145.out 1).trans rfl
                have hcz62_2 : w44.cell? ⟨gb145, 2, none⟩ = some (.slice Ao9 t141.length co9) := (blk_cell BK145.out 2).trans rfl
                have hfz62_0 := blk_frozen BK145.out 0
                have hfz62_1 := blk_frozen BK145.out 1
                have hfz62_2 := blk_frozen BK145.out 2
                go_wp2_with (first | ((with_reducible refine gate_callee (f := 15) rfl ?_); refine goesL_ (some 48) rfl rfl Try.func15 (by kernel_rfl) rfl #[.agg #[.int .i64 t160, .slice Ao48 t161.length co48, .slice Ao49 t164.length co49], .agg #[.int .i64 t137, .slice Ao8 t138.length co8, .slice Ao9 t141.length co9]] rfl (by (try simp only [List.map_toArray, List.map_cons, List.map_nil]); first | done | rfl | (simp only [List.length_drop, List.length_take]; rfl)) ?_; (with_reducible refine (laws_eqAges.calls kj3 t160 _ _ t161 _ _ t164 t137 _ _ t138 _ _ t141 false _ ?side1 ?side2 ?side3 ?side4 ?side5 ?side6 ?side7 ?side8 A50.out).mono ?_); (case side1 => refine (Kd.R_reads' (e := 3) (base := w.heap.size) (ok := fun k_ => ((True ∧ some k_ ≠ (.slice Ao8 t138.length co8 : Value).ownBlock) ∧ some k_ ≠ (.slice Ao14 t147.length co14 : Value).ownBlock)) (n := t161.length) (c := co48) ?_).2.2; exact (by (with_reducible repeat (first | apply Kd.R_alloc | apply Kd.R_drewN | apply Kd.R_drew)); exact (Kd.R_mono (Kd.R_far (p := ⟨gb168, 2, none⟩) (Kd.R_far (p := ⟨gb168, 1, none⟩) (Kd.R_far (p := ⟨gb168, 0, none⟩) (Kd.R_types HO163.out BK168.out (by decide)) (fun _ hk => hk.2) (.int .i64 t160)) (fun _ hk => hk.2) (.slice Ao48 t161.length co48)) (fun _ hk => hk.2) (.slice Ao49 t164.length co49)) (fun _ h_ => h_.1)))); (case side2 => exact (Kd.R_reads' HO163.out).2.1); (case side3 => refine (Kd.R_reads' (e := 48) (base := w.heap.size) (ok := fun k_ => ((True ∧ some k_ ≠ (.slice Ao9 t141.length co9 : Value).ownBlock) ∧ some k_ ≠ (.slice Ao15 t150.length co15 : Value).ownBlock)) (n := t164.length) (c := co49) ?_).2.2; exact (by (with_reducible repeat (first | apply Kd.R_alloc | apply Kd.R_drewN | apply Kd.R_drew)); exact (Kd.R_mono (Kd.R_far (p := ⟨gb168, 2, none⟩) (Kd.R_far (p := ⟨gb168, 1, none⟩) (Kd.R_far (p := ⟨gb168, 0, none⟩) (Kd.R_types HO166.out BK168.out (by decide)) (fun _ hk => hk.2) (.int .i64 t160)) (fun _ hk => hk.2) (.slice Ao48 t161.length co48)) (fun _ hk => hk.2) (.slice Ao49 t164.length co49)) (fun _ h_ => h_.1)))); (case side4 => exact (Kd.R_reads' HO166.out).2.1); (case side5 => refine (Kd.R_reads' (e := 3) (base := w.heap.size) (ok := fun k_ => (some k_ ≠ (.slice Ao14 t147.length co14 : Value).ownBlock ∧ some k_ ≠ (.slice Ao48 t161.length co48 : Value).ownBlock)) (n := t138.length) (c := co8) ?_).2.2; exact (by (with_reducible repeat (first | apply Kd.R_alloc | apply Kd.R_drewN | apply Kd.R_drew)); exact (Kd.R_mono (Kd.R_far (p := ⟨gb168, 2, none⟩) (Kd.R_far (p := ⟨gb168, 1, none⟩) (Kd.R_far (p := ⟨gb168, 0, none⟩) (Kd.R_types HO_146001.out BK168.out (by decide)) (fun _ hk => hk.2) (.int .i64 t160)) (fun _ hk => hk.2) (.slice Ao48 t161.length co48)) (fun _ hk => hk.2) (.slice Ao49 t164.length co49)) (fun _ h_ => h_.1)))); (case side6 => exact (Kd.R_reads' HO_146001.out).2.1); (case side7 => refine (Kd.R_reads' (e := 48) (base := w.heap.size) (ok := fun k_ => (some k_ ≠ (.slice Ao15 t150.length co15 : Value).ownBlock ∧ some k_ ≠ (.slice Ao49 t164.length co49 : Value).ownBlock)) (n := t141.length) (c := co9) ?_).2.2; exact (by (with_reducible repeat (first | apply Kd.R_alloc | apply Kd.R_drewN | apply Kd.R_drew)); exact (Kd.R_mono (Kd.R_far (p := ⟨gb168, 2, none⟩) (Kd.R_far (p := ⟨gb168, 1, none⟩) (Kd.R_far (p := ⟨gb168, 0, none⟩) (Kd.R_types HO_146002.out BK168.out (by decide)) (fun _ hk => hk.2) (.int .i64 t160)) (fun _ hk => hk.2) (.slice Ao48 t161.length co48)) (fun _ hk => hk.2) (.slice Ao49 t164.length co49)) (fun _ h_ => h_.1)))); (case side8 => exact (Kd.R_reads' HO_146002.out).2.1); rintro e w63 ⟨rfl, hb⟩; refine ⟨_, rfl, ?_⟩; have n0_ := Aside0.mk (Kd.R_below (by (with_reducible repeat (first | apply Kd.R_alloc | apply Kd.R_drewN | apply Kd.R_drew)); exact (Kd.R_mono (Kd.R_far (p := ⟨gb168, 2, none⟩) (Kd.R_far (p := ⟨gb168, 1, none⟩) (Kd.R_far (p := ⟨gb168, 0, none⟩) (Kd.R_types HO_146001.out BK168.out (by decide)) (fun _ hk => hk.2) (.int .i64 t160)) (fun _ hk => hk.2) (.slice Ao48 t161.length co48)) (fun _ hk => hk.2) (.slice Ao49 t164.length co49)) (fun _ h_ => h_.1))) hb); have n1_ := Aside0.mk (Kd.R_below (by (with_reducible repeat (first | apply Kd.R_alloc | apply Kd.R_drewN | apply Kd.R_drew)); exact (Kd.R_mono (Kd.R_far (p := ⟨gb168, 2, none⟩) (Kd.R_far (p := ⟨gb168, 1, none⟩) (Kd.R_far (p := ⟨gb168, 0, none⟩) (Kd.R_types HO_146002.out BK168.out (by decide)) (fun _ hk => hk.2) (.int .i64 t160)) (fun _ hk => hk.2) (.slice Ao48 t161.length co48)) (fun _ hk => hk.2) (.slice Ao49 t164.length co49)) (fun _ h_ => h_.1))) hb); have n2_ := Aside0.mk (Kd.R_below (by (with_reducible repeat (first | apply Kd.R_alloc | apply Kd.R_drewN | apply Kd.R_drew)); exact (Kd.R_mono (Kd.R_far (p := ⟨gb168, 2, none⟩) (Kd.R_far (p := ⟨gb168, 1, none⟩) (Kd.R_far (p := ⟨gb168, 0, none⟩) (Kd.R_types HO_155001.out BK168.out (by decide)) (fun _ hk => hk.2) (.int .i64 t160)) (fun _ hk => hk.2) (.slice Ao48 t161.length co48)) (fun _ hk => hk.2) (.slice Ao49 t164.length co49)) (fun _ h_ => h_.1))) hb); have n3_ := Aside0.mk (Kd.R_below (by (with_reducible repeat (first | apply Kd.R_alloc | apply Kd.R_drewN | apply Kd.R_drew)); exact (Kd.R_mono (Kd.R_far (p := ⟨gb168, 2, none⟩) (Kd.R_far (p := ⟨gb168, 1, none⟩) (Kd.R_far (p := ⟨gb168, 0, none⟩) (Kd.R_types HO_155002.out BK168.out (by decide)) (fun _ hk => hk.2) (.int .i64 t160)) (fun _ hk => hk.2) (.slice Ao48 t161.length co48)) (fun _ hk => hk.2) (.slice Ao49 t164.length co49)) (fun _ h_ => h_.1))) hb); have n4_ := Aside0.mk (Kd.R_below (by (with_reducible repeat (first | apply Kd.R_alloc | apply Kd.R_drewN | apply Kd.R_drew)); exact (Kd.R_mono (Kd.R_far (p := ⟨gb168, 2, none⟩) (Kd.R_far (p := ⟨gb168, 1, none⟩) (Kd.R_far (p := ⟨gb168, 0, none⟩) (Kd.R_types HO163.out BK168.out (by decide)) (fun _ hk => hk.2) (.int .i64 t160)) (fun _ hk => hk.2) (.slice Ao48 t161.length co48)) (fun _ hk => hk.2) (.slice Ao49 t164.length co49)) (fun _ h_ => h_.1))) hb); have n5_ := Aside0.mk (Kd.R_below (by (with_reducible repeat (first | apply Kd.R_alloc | apply Kd.R_drewN | apply Kd.R_drew)); exact (Kd.R_mono (Kd.R_far (p := ⟨gb168, 2, none⟩) (Kd.R_far (p := ⟨gb168, 1, none⟩) (Kd.R_far (p := ⟨gb168, 0, none⟩) (Kd.R_types HO166.out BK168.out (by decide)) (fun _ hk => hk.2) (.int .i64 t160)) (fun _ hk => hk.2) (.slice Ao48 t161.length co48)) (fun _ hk => hk.2) (.slice Ao49 t164.length co49)) (fun _ h_ => h_.1))) hb); have n6_ := Aside0.mk (blk_below (g := gb145) (o := .cells #[.int .i64 t137, .slice Ao8 t138.length co8, .slice Ao9 t141.length co9] 30 (0, 0)) (by (with_reducible repeat (first | refine blk_drewN ?_ _ | refine blk_drew ?_ | refine blk_alloc ?_ _)); refine blk_far ?_ NB145_168.out _; (with_reducible repeat (first | refine blk_drewN ?_ _ | refine blk_drew ?_ | refine blk_alloc ?_ _)); refine blk_far ?_ NB145_168.out _; (with_reducible repeat (first | refine blk_drewN ?_ _ | refine blk_drew ?_ | refine blk_alloc ?_ _)); refine blk_far ?_ NB145_168.out _; (with_reducible repeat (first | refine blk_drewN ?_ _ | refine blk_drew ?_ | refine blk_alloc ?_ _)); exact BK145.out) hb); have n7_ := Aside0.mk (blk_below (g := gb154) (o := .cells #[.int .i64 t146, .slice Ao14 t147.length co14, .slice Ao15 t150.length co15] 30 (0, 0)) (by (with_reducible repeat (first | refine blk_drewN ?_ _ | refine blk_drew ?_ | refine blk_alloc ?_ _)); refine blk_far ?_ NB154_168.out _; (with_reducible repeat (first | refine blk_drewN ?_ _ | refine blk_drew ?_ | refine blk_alloc ?_ _)); refine blk_far ?_ NB154_168.out _; (with_reducible repeat (first | refine blk_drewN ?_ _ | refine blk_drew ?_ | refine blk_alloc ?_ _)); refine blk_far ?_ NB154_168.out _; (with_reducible repeat (first | refine blk_drewN ?_ _ | refine blk_drew ?_ | refine blk_alloc ?_ _)); exact BK154.out) hb); have n8_ := Aside0.mk (blk_below (g := gb168) (o := .cells #[.int .i64 t160, .slice Ao48 t161.length co48, .slice Ao49 t164.length co49] 30 (0, 0)) (by (with_reducible repeat (first | refine blk_drewN ?_ _ | refine blk_drew ?_ | refine blk_alloc ?_ _)); refine blk_put (cs := #[.int .i64 t160, .slice Ao48 t161.length co48, .slice none 0 0]) ?_ 2 _ rfl; (with_reducible repeat (first | refine blk_drewN ?_ _ | refine blk_drew ?_ | refine blk_alloc ?_ _)); refine blk_put (cs := #[.int .i64 t160, .slice none 0 0, .slice none 0 0]) ?_ 1 _ rfl; (with_reducible repeat (first | refine blk_drewN ?_ _ | refine blk_drew ?_ | refine blk_alloc ?_ _)); refine blk_put (cs := #[.int .i64 0, .slice none 0 0, .slice none 0 0]) ?_ 0 _ rfl; (with_reducible repeat (first | refine blk_drewN ?_ _ | refine blk_drew ?_ | refine blk_alloc ?_ _)); exact BK168.out) hb); have n9_ := Aside0.mk (below_step (by repeat (first | (with_reducible first | exact HB.out | apply below_alloc | apply pw_below_drewN | apply below_drew1 | refine below_set ?_ GE145.out | refine below_set ?_ GE154.out | refine below_set ?_ GE168.out) | exact HB.out)) hb); clear HO_146001; clear HO_146002; clear HO_155001; clear HO_155002; clear HO163; clear HO166; clear BK145; clear BK154; clear BK168; clear HB; have HO_146001 := n0_; have HO_146002 := n1_; have HO_155001 := n2_; have HO_155002 := n3_; have HO163 := n4_; have HO166 := n5_; have BK145 := n6_; have BK154 := n7_; have BK168 := n8_; have HB := n9_; clear n0_ n1_ n2_ n3_ n4_ n5_ n6_ n7_ n8_ n9_; (try clear hb); (try clear hb2); (try clear hk); (try clear hi)))
                go_meet
                case rel => exact ⟨_, (true), (by first | rfl | (simp; done) | (simp [*]; done)), H', ⟨by have := HJ3.out; first | omega | exact Nat.le_refl _⟩, ⟨by (with_reducible repeat (first | apply Kd.R_alloc | apply Kd.R_drewN | apply Kd.R_drew)); exact HO_146001.out⟩, ⟨by (with_reducible repeat (first | apply Kd.R_alloc | apply Kd.R_drewN | apply Kd.R_drew)); exact HO_146002.out⟩, ⟨by (with_reducible repeat (first | apply Kd.R_alloc | apply Kd.R_drewN | apply Kd.R_drew)); exact HO_155001.out⟩, ⟨by (with_reducible repeat (first | apply Kd.R_alloc | apply Kd.R_drewN | apply Kd.R_drew)); exact HO_155002.out⟩, ⟨by (with_reducible repeat (first | apply Kd.R_alloc | apply Kd.R_drewN | apply Kd.R_drew)); exact Kd.R_mono HO163.out (fun _ hk => ⟨hk.1.2, hk.2⟩)⟩, ⟨by (with_reducible repeat (first | apply Kd.R_alloc | apply Kd.R_drewN | apply Kd.R_drew)); exact Kd.R_mono HO166.out (fun _ hk => ⟨hk.1.2, hk.2⟩)⟩, ⟨by (with_reducible repeat (first | refine blk_drewN ?_ _ | refine blk_drew ?_ | refine blk_alloc ?_ _)); exact BK145.out⟩, ⟨by (with_reducible repeat (first | refine blk_drewN ?_ _ | refine blk_drew ?_ | refine blk_alloc ?_ _)); exact BK154.out⟩, ⟨by (with_reducible repeat (first | refine blk_drewN ?_ _ | refine blk_drew ?_ | refine blk_alloc ?_ _)); exact BK168.out⟩, ⟨by repeat (first | (with_reducible first | exact HB.out | apply below_alloc | apply pw_below_drewN | apply below_drew1 | refine below_set ?_ GE145.out | refine below_set ?_ GE154.out | refine below_set ?_ GE168.out) | exact HB.out)⟩⟩
            case rest =>
              clear HC37
              try clear c1
              try clear c2
              try clear p2
              try clear c3
              try clear c4
              try clear c5
              try clear c6
              try clear c12
              try clear c15
              try clear c16
              try clear c17
              try clear c18
              try clear c19
              try clear c22
              try clear c26
              try clear c29
              try clear c29b0
              try clear c30
              try clear c35
              try clear c35b0
              try clear c35b1
              try clear c38
              try clear c45
              try clear c46
              try clear c51
              try clear c52
              try clear c53
              try clear c55
              try clear c58
              try clear c59
              try clear c61
              try clear hcz13_0
              try clear hcz13_1
              try clear hcz13_2
              try clear hcz19_0
              try clear hcz19_1
              try clear hcz19_2
              try clear hcz20_0
              try clear hcz20_1
              try clear hcz20_2
              try clear hcz23_0
              try clear hcz23_1
              try clear hcz23_2
              try clear hcz24_0
              try clear hcz24_1
              try clear hcz24_2
              try clear hcz31_0
              try clear hcz31_1
              try clear hcz31_2
              try clear hcz33_0
              try clear hcz33_1
              try clear hcz33_2
              try clear hcz39_0
              try clear hcz39_1
              try clear hcz39_2
              try clear hcz41_0
              try clear hcz41_1
              try clear hcz41_2
              try clear hcz47_0
              try clear hcz47_1
              try clear hcz47_2
              try clear hcz54_0
              try clear hcz54_1
              try clear hcz54_2
              try clear hcz56_0
              try clear hcz56_1
              try clear hcz56_2
              try clear hcz60_0
              try clear hcz60_1
              try clear hcz60_2
              try clear hcz62_0
              try clear hcz62_1
              try clear hcz62_2
              try clear hcz7_0
              try clear hcz7_1
              try clear hcz7_2
              try clear hfz13_0
              try clear hfz13_1
              try clear hfz13_2
              try clear hfz19_0
              try clear hfz19_1
              try clear hfz19_2
              try clear hfz20_0
              try clear hfz20_1
              try clear hfz20_2
              try clear hfz23_0
              try clear hfz23_1
              try clear hfz23_2
              try clear hfz24_0
              try clear hfz24_1
              try clear hfz24_2
              try clear hfz31_0
              try clear hfz31_1
              try clear hfz31_2
              try clear hfz33_0
              try clear hfz33_1
              try clear hfz33_2
              try clear hfz39_0
              try clear hfz39_1
              try clear hfz39_2
              try clear hfz41_0
              try clear hfz41_1
              try clear hfz41_2
              try clear hfz47_0
              try clear hfz47_1
              try clear hfz47_2
              try clear hfz54_0
              try clear hfz54_1
              try clear hfz54_2
              try clear hfz56_0
              try clear hfz56_1
              try clear hfz56_2
              try clear hfz60_0
              try clear hfz60_1
              try clear hfz60_2
              try clear hfz62_0
              try clear hfz62_1
              try clear hfz62_2
              try clear hfz7_0
              try clear hfz7_1
              try clear hfz7_2
              try clear p2
              obtain ⟨kq, x54_36, rfl, HA, HJ36, HO_146001, HO_146002, HO_155001, HO_155002, HO_169001, HO_169002, BK145, BK154, BK168, HB⟩ := hcut
              have hl155001_36 := (Kd.R_reads' HO_155001.out).1
              rw [hl155001_36] at HO_155001
              (try simp only [hl155001_36])
              (try simp only [hl155001_36] at BK145)
              (try simp only [hl155001_36] at BK154)
              (try simp only [hl155001_36] at BK168)
              (try simp only [hl155001_36] at HO_146001)
              (try simp only [hl155001_36] at HO_146002)
              (try simp only [hl155001_36] at HO_155002)
              (try simp only [hl155001_36] at HO_169001)
              (try simp only [hl155001_36] at HO_169002)
              have hl155002_36 := (Kd.R_reads' HO_155002.out).1
              rw [hl155002_36] at HO_155002
              (try simp only [hl155002_36])
              (try simp only [hl155002_36] at BK145)
              (try simp only [hl155002_36] at BK154)
              (try simp only [hl155002_36] at BK168)
              (try simp only [hl155002_36] at HO_146001)
              (try simp only [hl155002_36] at HO_146002)
              (try simp only [hl155002_36] at HO_155001)
              (try simp only [hl155002_36] at HO_169001)
              (try simp only [hl155002_36] at HO_169002)
              cases kq with
              | zero => exact absurd HA.out (by simp [laws_FnExactAgesNew.j1])
              | succ kj36 =>
                have H := HA.out
                clear HA
                simp only [laws_FnExactAgesNew.j1] at H
                by_cases c64 : x54_36 = true
                · subst c64
                  have H1 : (some false) = some r := by rw [if_pos rfl] at H; exact H
                  clear H
                  have H := H1
                  clear H1
                  obtain rfl := Option.some.inj H
                  go_wp2
                  go_ret
                  exact ⟨by first | rfl | (simp [errW_none, errW_some] <;> rfl) | (simp [*, errW_none, errW_some] <;> rfl), by repeat (first | (with_reducible first | exact HB.out | apply below_alloc | apply pw_below_drewN | apply below_drew1 | refine below_set ?_ GE145.out | refine below_set ?_ GE154.out | refine below_set ?_ GE168.out) | exact HB.out)⟩
                · replace c64 := Bool.eq_false_iff.mpr c64
                  subst c64
                  have H1 : ((laws_heldAges.f kj36 t146 t157 t158 1).bind fun t170 => (if t170 < 0 then (some false) else (if t170 = t156 then (some true) else (some false)))) = some r := by rw [if_neg (show ¬ (false = true) by decide)] at H; exact H
                  clear H
                  have H := H1
                  clear H1
                  replace H := Option.bind_eq_some_iff.mp H
                  obtain ⟨t170, A650, H⟩ := H
                  replace H : (if t170 < 0 then (some false) else (if t170 = t156 then (some true) else (some false))) = some r := H
                  have A65 := Aside0.mk A650
                  clear A650
                  by_cases c66 : t170 < 0
                  · rw [if_pos c66] at H
                    have c66b0 : decide (t170 < 0) = true := decide_eq_true c66
                    clear c66
                    obtain rfl := Option.some.inj H
                    have hnb67 := NB154_145.out
                    have hnc67 := NB145_154.out
                    have hnb68 := NB154_168.out
                    have hnc68 := NB168_154.out
                    have hcz69_0 : wc.cell? ⟨gb154, 0, none⟩ = some (.int .i64 t146) := (blk_cell BK154.out 0).trans rfl
                    have hcz69_1 : wc.cell? ⟨gb154, 1, none⟩ = some (.slice Ao14 t157.length co14) := (blk_cell BK154.out 1).trans rfl
                    have hcz69_2 : wc.cell? ⟨gb154, 2, none⟩ = some (.slice Ao15 t158.length co15) := (blk_cell BK154.out 2).trans rfl
                    have hfz69_0 := blk_frozen BK154.out 0
                    have hfz69_1 := blk_frozen BK154.out 1
                    have hfz69_2 := blk_frozen BK154.out 2
                    go_wp2_with (first | ((with_reducible refine gate_callee (f := 19) rfl ?_); refine goesL_ (some 57) rfl rfl Try.func19 (by kernel_rfl) rfl #[.agg #[.int .i64 t146, .slice Ao14 t157.length co14, .slice Ao15 t158.length co15], .int .i64 1] rfl (by (try simp only [List.map_toArray, List.map_cons, List.map_nil]); first | done | rfl | (simp only [List.length_drop, List.length_take]; rfl)) ?_; (with_reducible refine (laws_heldAges.calls kj36 t146 _ _ t157 _ _ t158 1 t170 _ ?side1 ?side2 ?side3 ?side4 A65.out).mono ?_); (case side1 => repeat (first | exact (Kd.R_reads' HO_155001.out).2.2 | (with_reducible refine Kd.C_alloc ?_ _) | (with_reducible refine Kd.C_drewN ?_ _) | (with_reducible refine Kd.C_drew ?_))); (case side2 => exact (Kd.R_reads' HO_155001.out).2.1); (case side3 => repeat (first | exact (Kd.R_reads' HO_155002.out).2.2 | (with_reducible refine Kd.C_alloc ?_ _) | (with_reducible refine Kd.C_drewN ?_ _) | (with_reducible refine Kd.C_drew ?_))); (case side4 => exact (Kd.R_reads' HO_155002.out).2.1); rintro e w70 ⟨rfl, hb⟩; refine ⟨_, rfl, ?_⟩; have n0_ := Aside0.mk (Kd.R_below (by (with_reducible repeat (first | apply Kd.R_alloc | apply Kd.R_drewN | apply Kd.R_drew)); exact HO_146001.out) hb); have n1_ := Aside0.mk (Kd.R_below (by (with_reducible repeat (first | apply Kd.R_alloc | apply Kd.R_drewN | apply Kd.R_drew)); exact HO_146002.out) hb); have n2_ := Aside0.mk (Kd.R_below (by (with_reducible repeat (first | apply Kd.R_alloc | apply Kd.R_drewN | apply Kd.R_drew)); exact HO_155001.out) hb); have n3_ := Aside0.mk (Kd.R_below (by (with_reducible repeat (first | apply Kd.R_alloc | apply Kd.R_drewN | apply Kd.R_drew)); exact HO_155002.out) hb); have n4_ := Aside0.mk (Kd.R_below (by (with_reducible repeat (first | apply Kd.R_alloc | apply Kd.R_drewN | apply Kd.R_drew)); exact HO_169001.out) hb); have n5_ := Aside0.mk (Kd.R_below (by (with_reducible repeat (first | apply Kd.R_alloc | apply Kd.R_drewN | apply Kd.R_drew)); exact HO_169002.out) hb); have n6_ := Aside0.mk (blk_below (g := gb145) (o := .cells #[.int .i64 t137, .slice Ao8 t138.length co8, .slice Ao9 t141.length co9] 30 (0, 0)) (by (with_reducible repeat (first | refine blk_drewN ?_ _ | refine blk_drew ?_ | refine blk_alloc ?_ _)); exact BK145.out) hb); have n7_ := Aside0.mk (blk_below (g := gb154) (o := .cells #[.int .i64 t146, .slice Ao14 t157.length co14, .slice Ao15 t158.length co15] 30 (0, 0)) (by (with_reducible repeat (first | refine blk_drewN ?_ _ | refine blk_drew ?_ | refine blk_alloc ?_ _)); exact BK154.out) hb); have n8_ := Aside0.mk (blk_below (g := gb168) (o := .cells #[.int .i64 t160, .slice Ao48 t161.length co48, .slice Ao49 t164.length co49] 30 (0, 0)) (by (with_reducible repeat (first | refine blk_drewN ?_ _ | refine blk_drew ?_ | refine blk_alloc ?_ _)); exact BK168.out) hb); have n9_ := Aside0.mk (below_step (by repeat (first | (with_reducible first | exact HB.out | apply below_alloc | apply pw_below_drewN | apply below_drew1 | refine below_set ?_ GE145.out | refine below_set ?_ GE154.out | refine below_set ?_ GE168.out) | exact HB.out)) hb); clear HO_146001; clear HO_146002; clear HO_155001; clear HO_155002; clear HO_169001; clear HO_169002; clear BK145; clear BK154; clear BK168; clear HB; have HO_146001 := n0_; have HO_146002 := n1_; have HO_155001 := n2_; have HO_155002 := n3_; have HO_169001 := n4_; have HO_169002 := n5_; have BK145 := n6_; have BK154 := n7_; have BK168 := n8_; have HB := n9_; clear n0_ n1_ n2_ n3_ n4_ n5_ n6_ n7_ n8_ n9_; (try clear hb); (try clear hb2); (try clear hk); (try clear hi)))
                    go_ret
                    exact ⟨by first | rfl | (simp [errW_none, errW_some] <;> rfl) | (simp [*, errW_none, errW_some] <;> rfl), by repeat (first | (with_reducible first | exact HB.out | apply below_alloc | apply pw_below_drewN | apply below_drew1 | refine below_set ?_ GE145.out | refine below_set ?_ GE154.out | refine below_set ?_ GE168.out) | exact HB.out)⟩
                  · rw [if_neg c66] at H
                    have c66b0 : decide (t170 < 0) = false := decide_eq_false c66
                    clear c66
                    by_cases c71 : t170 = t156
                    · rw [if_pos c71] at H
                      have c71b0 : (t170 == t156) = true := beq_iff_eq.mpr c71
                      have c71b1 : (t170 != t156) = false := bne_eq_false_iff_eq.mpr c71
                      clear c71
                      obtain rfl := Option.some.inj H
                      have hnb72 := NB154_145.out
                      have hnc72 := NB145_154.out
                      have hnb73 := NB154_168.out
                      have hnc73 := NB168_154.out
                      have hcz74_0 : wc.cell? ⟨gb154, 0, none⟩ = some (.int .i64 t146) := (blk_cell BK154.out 0).trans rfl
                      have hcz74_1 : wc.cell? ⟨gb154, 1, none⟩ = some (.slice Ao14 t157.length co14) := (blk_cell BK154.out 1).trans rfl
                      have hcz74_2 : wc.cell? ⟨gb154, 2, none⟩ = some (.slice Ao15 t158.length co15) := (blk_cell BK154.out 2).trans rfl
                      have hfz74_0 := blk_frozen BK154.out 0
                      have hfz74_1 := blk_frozen BK154.out 1
                      have hfz74_2 := blk_frozen BK154.out 2
                      go_wp2_with (first | ((with_reducible refine gate_callee (f := 19) rfl ?_); refine goesL_ (some 57) rfl rfl Try.func19 (by kernel_rfl) rfl #[.agg #[.int .i64 t146, .slice Ao14 t157.length co14, .slice Ao15 t158.length co15], .int .i64 1] rfl (by (try simp only [List.map_toArray, List.map_cons, List.map_nil]); first | done | rfl | (simp only [List.length_drop, List.length_take]; rfl)) ?_; (with_reducible refine (laws_heldAges.calls kj36 t146 _ _ t157 _ _ t158 1 t170 _ ?side1 ?side2 ?side3 ?side4 A65.out).mono ?_); (case side1 => repeat (first | exact (Kd.R_reads' HO_155001.out).2.2 | (with_reducible refine Kd.C_alloc ?_ _) | (with_reducible refine Kd.C_drewN ?_ _) | (with_reducible refine Kd.C_drew ?_))); (case side2 => exact (Kd.R_reads' HO_155001.out).2.1); (case side3 => repeat (first | exact (Kd.R_reads' HO_155002.out).2.2 | (with_reducible refine Kd.C_alloc ?_ _) | (with_reducible refine Kd.C_drewN ?_ _) | (with_reducible refine Kd.C_drew ?_))); (case side4 => exact (Kd.R_reads' HO_155002.out).2.1); rintro e w75 ⟨rfl, hb⟩; refine ⟨_, rfl, ?_⟩; have n0_ := Aside0.mk (Kd.R_below (by (with_reducible repeat (first | apply Kd.R_alloc | apply Kd.R_drewN | apply Kd.R_drew)); exact HO_146001.out) hb); have n1_ := Aside0.mk (Kd.R_below (by (with_reducible repeat (first | apply Kd.R_alloc | apply Kd.R_drewN | apply Kd.R_drew)); exact HO_146002.out) hb); have n2_ := Aside0.mk (Kd.R_below (by (with_reducible repeat (first | apply Kd.R_alloc | apply Kd.R_drewN | apply Kd.R_drew)); exact HO_155001.out) hb); have n3_ := Aside0.mk (Kd.R_below (by (with_reducible repeat (first | apply Kd.R_alloc | apply Kd.R_drewN | apply Kd.R_drew)); exact HO_155002.out) hb); have n4_ := Aside0.mk (Kd.R_below (by (with_reducible repeat (first | apply Kd.R_alloc | apply Kd.R_drewN | apply Kd.R_drew)); exact HO_169001.out) hb); have n5_ := Aside0.mk (Kd.R_below (by (with_reducible repeat (first | apply Kd.R_alloc | apply Kd.R_drewN | apply Kd.R_drew)); exact HO_169002.out) hb); have n6_ := Aside0.mk (blk_below (g := gb145) (o := .cells #[.int .i64 t137, .slice Ao8 t138.length co8, .slice Ao9 t141.length co9] 30 (0, 0)) (by (with_reducible repeat (first | refine blk_drewN ?_ _ | refine blk_drew ?_ | refine blk_alloc ?_ _)); exact BK145.out) hb); have n7_ := Aside0.mk (blk_below (g := gb154) (o := .cells #[.int .i64 t146, .slice Ao14 t157.length co14, .slice Ao15 t158.length co15] 30 (0, 0)) (by (with_reducible repeat (first | refine blk_drewN ?_ _ | refine blk_drew ?_ | refine blk_alloc ?_ _)); exact BK154.out) hb); have n8_ := Aside0.mk (blk_below (g := gb168) (o := .cells #[.int .i64 t160, .slice Ao48 t161.length co48, .slice Ao49 t164.length co49] 30 (0, 0)) (by (with_reducible repeat (first | refine blk_drewN ?_ _ | refine blk_drew ?_ | refine blk_alloc ?_ _)); exact BK168.out) hb); have n9_ := Aside0.mk (below_step (by repeat (first | (with_reducible first | exact HB.out | apply below_alloc | apply pw_below_drewN | apply below_drew1 | refine below_set ?_ GE145.out | refine below_set ?_ GE154.out | refine below_set ?_ GE168.out) | exact HB.out)) hb); clear HO_146001; clear HO_146002; clear HO_155001; clear HO_155002; clear HO_169001; clear HO_169002; clear BK145; clear BK154; clear BK168; clear HB; have HO_146001 := n0_; have HO_146002 := n1_; have HO_155001 := n2_; have HO_155002 := n3_; have HO_169001 := n4_; have HO_169002 := n5_; have BK145 := n6_; have BK154 := n7_; have BK168 := n8_; have HB := n9_; clear n0_ n1_ n2_ n3_ n4_ n5_ n6_ n7_ n8_ n9_; (try clear hb); (try clear hb2); (try clear hk); (try clear hi)))
                      go_ret
                      exact ⟨by first | rfl | (simp [errW_none, errW_some] <;> rfl) | (simp [*, errW_none, errW_some] <;> rfl), by repeat (first | (with_reducible first | exact HB.out | apply below_alloc | apply pw_below_drewN | apply below_drew1 | refine below_set ?_ GE145.out | refine below_set ?_ GE154.out | refine below_set ?_ GE168.out) | exact HB.out)⟩
                    · rw [if_neg c71] at H
                      have c71b0 : (t170 == t156) = false := beq_eq_false_iff_ne.mpr c71
                      have c71b1 : (t170 != t156) = true := bne_iff_ne.mpr c71
                      obtain rfl := Option.some.inj H
                      have hnb76 := NB154_145.out
                      have hnc76 := NB145_154.out
                      have hnb77 := NB154_168.out
                      have hnc77 := NB168_154.out
                      have hcz78_0 : wc.cell? ⟨gb154, 0, none⟩ = some (.int .i64 t146) := (blk_cell BK154.out 0).trans rfl
                      have hcz78_1 : wc.cell? ⟨gb154, 1, none⟩ = some (.slice Ao14 t157.length co14) := (blk_cell BK154.out 1).trans rfl
                      have hcz78_2 : wc.cell? ⟨gb154, 2, none⟩ = some (.slice Ao15 t158.length co15) := (blk_cell BK154.out 2).trans rfl
                      have hfz78_0 := blk_frozen BK154.out 0
                      have hfz78_1 := blk_frozen BK154.out 1
                      have hfz78_2 := blk_frozen BK154.out 2
                      go_wp2_with (first | ((with_reducible refine gate_callee (f := 19) rfl ?_); refine goesL_ (some 57) rfl rfl Try.func19 (by kernel_rfl) rfl #[.agg #[.int .i64 t146, .slice Ao14 t157.length co14, .slice Ao15 t158.length co15], .int .i64 1] rfl (by (try simp only [List.map_toArray, List.map_cons, List.map_nil]); first | done | rfl | (simp only [List.length_drop, List.length_take]; rfl)) ?_; (with_reducible refine (laws_heldAges.calls kj36 t146 _ _ t157 _ _ t158 1 t170 _ ?side1 ?side2 ?side3 ?side4 A65.out).mono ?_); (case side1 => repeat (first | exact (Kd.R_reads' HO_155001.out).2.2 | (with_reducible refine Kd.C_alloc ?_ _) | (with_reducible refine Kd.C_drewN ?_ _) | (with_reducible refine Kd.C_drew ?_))); (case side2 => exact (Kd.R_reads' HO_155001.out).2.1); (case side3 => repeat (first | exact (Kd.R_reads' HO_155002.out).2.2 | (with_reducible refine Kd.C_alloc ?_ _) | (with_reducible refine Kd.C_drewN ?_ _) | (with_reducible refine Kd.C_drew ?_))); (case side4 => exact (Kd.R_reads' HO_155002.out).2.1); rintro e w79 ⟨rfl, hb⟩; refine ⟨_, rfl, ?_⟩; have n0_ := Aside0.mk (Kd.R_below (by (with_reducible repeat (first | apply Kd.R_alloc | apply Kd.R_drewN | apply Kd.R_drew)); exact HO_146001.out) hb); have n1_ := Aside0.mk (Kd.R_below (by (with_reducible repeat (first | apply Kd.R_alloc | apply Kd.R_drewN | apply Kd.R_drew)); exact HO_146002.out) hb); have n2_ := Aside0.mk (Kd.R_below (by (with_reducible repeat (first | apply Kd.R_alloc | apply Kd.R_drewN | apply Kd.R_drew)); exact HO_155001.out) hb); have n3_ := Aside0.mk (Kd.R_below (by (with_reducible repeat (first | apply Kd.R_alloc | apply Kd.R_drewN | apply Kd.R_drew)); exact HO_155002.out) hb); have n4_ := Aside0.mk (Kd.R_below (by (with_reducible repeat (first | apply Kd.R_alloc | apply Kd.R_drewN | apply Kd.R_drew)); exact HO_169001.out) hb); have n5_ := Aside0.mk (Kd.R_below (by (with_reducible repeat (first | apply Kd.R_alloc | apply Kd.R_drewN | apply Kd.R_drew)); exact HO_169002.out) hb); have n6_ := Aside0.mk (blk_below (g := gb145) (o := .cells #[.int .i64 t137, .slice Ao8 t138.length co8, .slice Ao9 t141.length co9] 30 (0, 0)) (by (with_reducible repeat (first | refine blk_drewN ?_ _ | refine blk_drew ?_ | refine blk_alloc ?_ _)); exact BK145.out) hb); have n7_ := Aside0.mk (blk_below (g := gb154) (o := .cells #[.int .i64 t146, .slice Ao14 t157.length co14, .slice Ao15 t158.length co15] 30 (0, 0)) (by (with_reducible repeat (first | refine blk_drewN ?_ _ | refine blk_drew ?_ | refine blk_alloc ?_ _)); exact BK154.out) hb); have n8_ := Aside0.mk (blk_below (g := gb168) (o := .cells #[.int .i64 t160, .slice Ao48 t161.length co48, .slice Ao49 t164.length co49] 30 (0, 0)) (by (with_reducible repeat (first | refine blk_drewN ?_ _ | refine blk_drew ?_ | refine blk_alloc ?_ _)); exact BK168.out) hb); have n9_ := Aside0.mk (below_step (by repeat (first | (with_reducible first | exact HB.out | apply below_alloc | apply pw_below_drewN | apply below_drew1 | refine below_set ?_ GE145.out | refine below_set ?_ GE154.out | refine below_set ?_ GE168.out) | exact HB.out)) hb); clear HO_146001; clear HO_146002; clear HO_155001; clear HO_155002; clear HO_169001; clear HO_169002; clear BK145; clear BK154; clear BK168; clear HB; have HO_146001 := n0_; have HO_146002 := n1_; have HO_155001 := n2_; have HO_155002 := n3_; have HO_169001 := n4_; have HO_169002 := n5_; have BK145 := n6_; have BK154 := n7_; have BK168 := n8_; have HB := n9_; clear n0_ n1_ n2_ n3_ n4_ n5_ n6_ n7_ n8_ n9_; (try clear hb); (try clear hb2); (try clear hk); (try clear hi)))
                      go_ret
                      exact ⟨by first | rfl | (simp [errW_none, errW_some] <;> rfl) | (simp [*, errW_none, errW_some] <;> rfl), by repeat (first | (with_reducible first | exact HB.out | apply below_alloc | apply pw_below_drewN | apply below_drew1 | refine below_set ?_ GE145.out | refine below_set ?_ GE154.out | refine below_set ?_ GE168.out) | exact HB.out)⟩
          · rw [if_neg c35] at H
            have c35b0 : (t159 == t156) = false := beq_eq_false_iff_ne.mpr c35
            have c35b1 : (t159 != t156) = true := bne_iff_ne.mpr c35
            obtain rfl := Option.some.inj H
            have hnb80 := NB154_145.out
            have hnc80 := NB145_154.out
            have hcz81_0 : wc.cell? ⟨gb154, 0, none⟩ = some (.int .i64 t146) := (blk_cell BK154.out 0).trans rfl
            have hcz81_1 : wc.cell? ⟨gb154, 1, none⟩ = some (.slice Ao14 t147.length co14) := (blk_cell BK154.out 1).trans rfl
            have hcz81_2 : wc.cell? ⟨gb154, 2, none⟩ = some (.slice Ao15 t150.length co15) := (blk_cell BK154.out 2).trans rfl
            have hfz81_0 := blk_frozen BK154.out 0
            have hfz81_1 := blk_frozen BK154.out 1
            have hfz81_2 := blk_frozen BK154.out 2
            go_wp2_with (first | ((with_reducible refine gate_callee (f := 18) rfl ?_); refine goesL_ (some 32) rfl rfl Try.func18 (by kernel_rfl) rfl #[.agg #[.int .i64 t146, .slice Ao14 t147.length co14, .slice Ao15 t150.length co15], .int .i64 1] rfl (by (try simp only [List.map_toArray, List.map_cons, List.map_nil]); first | done | rfl | (simp only [List.length_drop, List.length_take]; rfl)) ?_; (with_reducible refine (laws_markAges.calls kj3 t146 (fun k_ => some k_ = (.slice Ao14 t147.length co14 : Value).ownBlock) (.slice Ao14 t147.length co14) t147 (fun k_ => some k_ = (.slice Ao15 t150.length co15 : Value).ownBlock) (.slice Ao15 t150.length co15) t150 1 t156 t157 t158 w _ ?side1 ?side2 ?side3 A27.out).mono ?_); (case side1 => repeat (first | (with_reducible first | exact HB.out | apply below_alloc | apply pw_below_drewN | apply below_drew1 | refine below_set ?_ GE145.out | refine below_set ?_ GE154.out) | exact HB.out)); (case side2 => exact Kd.R_tight rfl HO_155001.out); (case side3 => exact Kd.R_tight rfl HO_155002.out); rintro e w82 ⟨rfl, hy0, hy1, hb, hkp⟩; refine ⟨_, rfl, ?_⟩; have n0_ := Aside0.mk (Kd.R_mono (ok' := fun k_ => some k_ ≠ (.slice Ao14 t147.length co14 : Value).ownBlock) (Kd.R_keptB ((Kd.R_apart' HO_146001.out (Kd.R_typed HO_155002.out) (by decide))) hkp (fun k_ hk_ hs_ => Or.elim hs_ (fun e_ => (hk_.1) e_) (fun e_ => (hk_.2) e_))) (fun k_ hk_ => hk_.1.1)); have n1_ := Aside0.mk (Kd.R_mono (ok' := fun k_ => some k_ ≠ (.slice Ao15 t150.length co15 : Value).ownBlock) (Kd.R_keptB ((Kd.R_apart' HO_146002.out (Kd.R_typed HO_155001.out) (by decide))) hkp (fun k_ hk_ hs_ => Or.elim hs_ (fun e_ => (hk_.2) e_) (fun e_ => (hk_.1) e_))) (fun k_ hk_ => hk_.1.1)); have n2_ := Aside0.mk (Kd.R_reok rfl hy0 (fun k_ e_ => HO_155001.out.1 k_ e_)); have n3_ := Aside0.mk (Kd.R_reok rfl hy1 (fun k_ e_ => HO_155002.out.1 k_ e_)); have n4_ := Aside0.mk (blk_kept (by (with_reducible repeat (first | refine blk_drewN ?_ _ | refine blk_drew ?_ | refine blk_alloc ?_ _)); exact BK145.out) hkp (fun hs_ => Or.elim hs_ (fun e_ => (fun e_ => (Kd.R_ne HO_155001.out BK145.out (by decide)) e_) e_) (fun e_ => (fun e_ => (Kd.R_ne HO_155002.out BK145.out (by decide)) e_) e_))); have n5_ := Aside0.mk (blk_kept (by (with_reducible repeat (first | refine blk_drewN ?_ _ | refine blk_drew ?_ | refine blk_alloc ?_ _)); exact BK154.out) hkp (fun hs_ => Or.elim hs_ (fun e_ => (fun e_ => (Kd.R_ne HO_155001.out BK154.out (by decide)) e_) e_) (fun e_ => (fun e_ => (Kd.R_ne HO_155002.out BK154.out (by decide)) e_) e_))); have n6_ := Aside0.mk (hb); clear HO_146001; clear HO_146002; clear HO_155001; clear HO_155002; clear BK145; clear BK154; clear HB; have HO_146001 := n0_; have HO_146002 := n1_; have HO_155001 := n2_; have HO_155002 := n3_; have BK145 := n4_; have BK154 := n5_; have HB := n6_; clear n0_ n1_ n2_ n3_ n4_ n5_ n6_; (try clear hb); (try clear hkp); (try clear hy0); (try clear hy1); have hcz83_0 : w82.cell? ⟨gb154, 0, none⟩ = some (.int .i64 t146) := (blk_cell BK154.out 0).trans rfl; have hcz83_1 : w82.cell? ⟨gb154, 1, none⟩ = some (.slice Ao14 t147.length co14) := (blk_cell BK154.out 1).trans rfl; have hcz83_2 : w82.cell? ⟨gb154, 2, none⟩ = some (.slice Ao15 t150.length co15) := (blk_cell BK154.out 2).trans rfl; have hfz83_0 := blk_frozen BK154.out 0; have hfz83_1 := blk_frozen BK154.out 1; have hfz83_2 := blk_frozen BK154.out 2) | ((with_reducible refine gate_callee (f := 19) rfl ?_); refine goesL_ (some 35) rfl rfl Try.func19 (by kernel_rfl) rfl #[.agg #[.int .i64 t146, .slice Ao14 t157.length co14, .slice Ao15 t158.length co15], .int .i64 1] rfl (by (try simp only [List.map_toArray, List.map_cons, List.map_nil]); first | done | (rw [show t157.length = t147.length from (Kd.R_reads' HO_155001.out).1.symm, show t158.length = t150.length from (Kd.R_reads' HO_155002.out).1.symm] <;> rfl) | rfl | (simp only [List.length_drop, List.length_take]; rfl)) ?_; (with_reducible refine (laws_heldAges.calls kj3 t146 _ _ t157 _ _ t158 1 t159 _ ?side1 ?side2 ?side3 ?side4 A28.out).mono ?_); (case side1 => repeat (first | exact (Kd.R_reads' HO_155001.out).2.2 | (with_reducible refine Kd.C_alloc ?_ _) | (with_reducible refine Kd.C_drewN ?_ _) | (with_reducible refine Kd.C_drew ?_))); (case side2 => rw [show t157.length = t147.length from (Kd.R_reads' HO_155001.out).1.symm]; exact (Kd.R_reads' HO_155001.out).2.1); (case side3 => repeat (first | exact (Kd.R_reads' HO_155002.out).2.2 | (with_reducible refine Kd.C_alloc ?_ _) | (with_reducible refine Kd.C_drewN ?_ _) | (with_reducible refine Kd.C_drew ?_))); (case side4 => rw [show t158.length = t150.length from (Kd.R_reads' HO_155002.out).1.symm]; exact (Kd.R_reads' HO_155002.out).2.1); rintro e w84 ⟨rfl, hb⟩; refine ⟨_, rfl, ?_⟩; have n0_ := Aside0.mk (Kd.R_below (by (with_reducible repeat (first | apply Kd.R_alloc | apply Kd.R_drewN | apply Kd.R_drew)); exact HO_146001.out) hb); have n1_ := Aside0.mk (Kd.R_below (by (with_reducible repeat (first | apply Kd.R_alloc | apply Kd.R_drewN | apply Kd.R_drew)); exact HO_146002.out) hb); have n2_ := Aside0.mk (Kd.R_below (by (with_reducible repeat (first | apply Kd.R_alloc | apply Kd.R_drewN | apply Kd.R_drew)); exact HO_155001.out) hb); have n3_ := Aside0.mk (Kd.R_below (by (with_reducible repeat (first | apply Kd.R_alloc | apply Kd.R_drewN | apply Kd.R_drew)); exact HO_155002.out) hb); have n4_ := Aside0.mk (blk_below (g := gb145) (o := .cells #[.int .i64 t137, .slice Ao8 t138.length co8, .slice Ao9 t141.length co9] 30 (0, 0)) (by (with_reducible repeat (first | refine blk_drewN ?_ _ | refine blk_drew ?_ | refine blk_alloc ?_ _)); exact BK145.out) hb); have n5_ := Aside0.mk (blk_below (g := gb154) (o := .cells #[.int .i64 t146, .slice Ao14 t147.length co14, .slice Ao15 t150.length co15] 30 (0, 0)) (by (with_reducible repeat (first | refine blk_drewN ?_ _ | refine blk_drew ?_ | refine blk_alloc ?_ _)); exact BK154.out) hb); have n6_ := Aside0.mk (below_step (by repeat (first | (with_reducible first | exact HB.out | apply below_alloc | apply pw_below_drewN | apply below_drew1 | refine below_set ?_ GE145.out | refine below_set ?_ GE154.out) | exact HB.out)) hb); clear HO_146001; clear HO_146002; clear HO_155001; clear HO_155002; clear BK145; clear BK154; clear HB; have HO_146001 := n0_; have HO_146002 := n1_; have HO_155001 := n2_; have HO_155002 := n3_; have BK145 := n4_; have BK154 := n5_; have HB := n6_; clear n0_ n1_ n2_ n3_ n4_ n5_ n6_; (try clear hb); (try clear hb2); (try clear hk); (try clear hi)))
            go_ret
            exact ⟨by first | rfl | (simp [errW_none, errW_some] <;> rfl) | (simp [*, errW_none, errW_some] <;> rfl), by repeat (first | (with_reducible first | exact HB.out | apply below_alloc | apply pw_below_drewN | apply below_drew1 | refine below_set ?_ GE145.out | refine below_set ?_ GE154.out) | exact HB.out)⟩

/-- THE ONE PURE STATEMENT of laws_FnExactAgesNew: yours. -/
def laws_FnExactAgesNew.Pure : Prop := ∀ (a0 : Int), (Lit.int .i64 a0).wf = true → ∃ k, laws_FnExactAgesNew.f k a0 = some true
theorem laws_FnExactAgesNew.walk (P : laws_FnExactAgesNew.Pure) (a0 : Int) (w : World) (w0 : (Lit.int .i64 a0).wf = true) :
    Calls Try.prog 4 #[.int .i64 a0] w fun e w' => e = .returned (.bool true) ∧ Below w.heap.size w w' := by
  obtain ⟨k, h⟩ := P a0 w0
  refine (laws_FnExactAgesNew.calls k a0 true w h).mono ?_
  rintro e w' ⟨rfl, hd⟩
  exact ⟨rfl, hd⟩

end Go.Proofs.Ytlnjhgjjfplodaa.PFnExactAgesNew
