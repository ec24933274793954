/- Part W0 of the proof of FnExactCrewStep and FnExactCrewRun (wip/xec, pack.py). No condition. -/
import Derived.Test.YtgghglocfdcegaaGreatKI
import Derived.Test.YtgghglocfdcegaaGreatKH
import Derived.Test.YtgghglocfdcegaaGreatKS5
import Derived.Test.YtgghglocfdcegaaGreatKG
import Derived.Test.YtgghglocfdcegaaGreatKP
import Derived.Test.YtgghglocfdcegaaGreatKU
import Derived.Test.YtgghglocfdcegaaGreatKR
namespace Go.Proofs.YtgghglocfdcegaaGreat.Xec
open Go Go.RowKit Go.Proofs.YtgghglocfdcegaaGreat.PFnExactCrewRun Go.Proofs.YtgghglocfdcegaaGreatW.PrintWords
set_option linter.unusedVariables false
set_option linter.unusedSimpArgs false
set_option maxRecDepth 100000
set_option maxHeartbeats 16000000
theorem eqnt {b : Bool} (h : b = true) (h' : (!b) = true) : False := by
 subst h
 cases h'
theorem ZdU (x0 x1 x2 x3 x4 x5 x6 x7 x8 : Int) (x9 : Bool) : Zau.F x0 x1 x2 x3 x4 x5 x6 x7 x8 x9 x0 x1 x2 x3 x4 x5 x6 x7 x8 x9 = true := by
 unfold Zau.F Zau.f
 simp
theorem Zbr.same (A0 : Option Addr) (c0 : Nat) (A1 : Option Addr) (c1 : Nat) (l : List Int) (w : World) (h0 : (Kd.int .i64).C w A0 l.length l) (h1 : (Kd.int .i64).C w A1 l.length l) :
 Calls Tryz.prog 15 #[.slice A0 l.length c0, .slice A1 l.length c1] w fun e w' => e = .returned (.bool true) ∧ Below w.heap.size w w' := by
 have hlen := h0.2.1
 obtain ⟨j, hj⟩ : ∃ j : Nat → Int, ∀ k, j k = ((l.length + 1 - k : Nat) : Int) := ⟨_, fun _ => rfl⟩
 obtain ⟨N, hN⟩ : ∃ N, N = l.length + 1 := ⟨_, rfl⟩
 refine Zbd (X := mkXR std [] [] [rowI A0 c0 l, rowI A1 c1 l]) (d1 := fun _ => 0) Tryz.func15 rfl (by kernel_rfl) hm (Zaw rfl ZW Zap (Zb8 (ZaI rfl h0) (ZaI rfl h1))) [.sl 0, .sl 1] 5 600 (Nat.le_of_ble_eq_true rfl) (.bool true) N (by omega)
  (fun k => [(0, .v (.sl 0)), (1, .v (.sl 1)), (5, .v (.int (j k)))]) (fun k => []) (fun k => rfl) (fun _ => True) (fun k => ?_)
 generalize hO : std = O
 unfold rowI
 generalize rd l = rd0
 skip
 generalize l.length = n0 at *
 have z2 : 0 = j N := by rw [hj, hN, Nat.sub_self]; rfl
 have s1 : k < N → j (k + 1) < (n0 : Int) → 0 < k ∧ 0 ≤ j (k + 1) ∧ wrap64 (j (k + 1) + 1) = j k := by
  intro h1 h2
  rw [hj] at h2
  refine ⟨by omega, by rw [hj]; omega, ?_⟩
  rw [hj, hj]
  unfold wrap64
  omega
 clear hj h0 h1
 (try cbv)
 repeat' (apply And.intro <;> (try intros) <;> (try cbv))
 all_goals (subst hO; (try dsimp only [std] at *); (try simp only [decide_eq_true_eq, decide_eq_false_iff_not, beq_iff_eq, beq_eq_false_iff_ne, bne_iff_ne, bne_eq_false_iff_eq, ne_eq, Int.ofNat_eq_natCast] at *))
 all_goals first
  | rfl
  | trivial
  | exact congrArg (fun x => Slot.v (.int x)) z2
  | exact z2
  | contradiction
  | exact (s1 (by assumption) (by assumption)).1
  | exact congrArg (fun x => Slot.v (.int x)) (s1 (by assumption) (by assumption)).2.2
  | (have q := s1 (by assumption) (by assumption); simp only [Bool.and_eq_true, decide_eq_true_eq]; constructor <;> omega)
  | exact (eqnt (hE _ _ _ _ _ _ _ _ _ _) (by assumption)).elim
  | (simp_all; done)
theorem Zdt.same (A0 : Option Addr) (c0 : Nat) (A1 : Option Addr) (c1 : Nat) (l : List S54) (w : World) (h0 : k54.C w A0 l.length l) (h1 : k54.C w A1 l.length l) :
 Calls Tryz.prog 87 #[.slice A0 l.length c0, .slice A1 l.length c1] w fun e w' => e = .returned (.bool true) ∧ Below w.heap.size w w' := by
 have hlen := h0.2.1
 obtain ⟨j, hj⟩ : ∃ j : Nat → Int, ∀ k, j k = ((l.length + 1 - k : Nat) : Int) := ⟨_, fun _ => rfl⟩
 obtain ⟨N, hN⟩ : ∃ N, N = l.length + 1 := ⟨_, rfl⟩
 refine Zbd (X := mkXR std [(116, Zau.g)] [] [rowC A0 c0 l, rowC A1 c1 l]) (d1 := fun _ => 0) Tryz.func87 rfl (by kernel_rfl) hm (Zaw rfl (all_cons Zau.fn ZW) Zap (Zb8 (ZbB rfl h0) (ZbB rfl h1))) [.sl 0, .sl 1] 5 600 (Nat.le_of_ble_eq_true rfl) (.bool true) N (by omega)
  (fun k => [(0, .v (.sl 0)), (1, .v (.sl 1)), (5, .v (.int (j k)))]) (fun k => []) (fun k => rfl) (fun _ => True) (fun k => ?_)
 generalize hO : std = O
 unfold rowC
 generalize rd_T54 l = rd0
 unfold Zau.g
 have hE := ZdU
 generalize Zau.F = fE at *
 generalize l.length = n0 at *
 have z2 : 0 = j N := by rw [hj, hN, Nat.sub_self]; rfl
 have s1 : k < N → j (k + 1) < (n0 : Int) → 0 < k ∧ 0 ≤ j (k + 1) ∧ wrap64 (j (k + 1) + 1) = j k := by
  intro h1 h2
  rw [hj] at h2
  refine ⟨by omega, by rw [hj]; omega, ?_⟩
  rw [hj, hj]
  unfold wrap64
  omega
 clear hj h0 h1
 (try cbv)
 repeat' (apply And.intro <;> (try intros) <;> (try cbv))
 all_goals (subst hO; (try dsimp only [std] at *); (try simp only [decide_eq_true_eq, decide_eq_false_iff_not, beq_iff_eq, beq_eq_false_iff_ne, bne_iff_ne, bne_eq_false_iff_eq, ne_eq, Int.ofNat_eq_natCast] at *))
 all_goals first
  | rfl
  | trivial
  | exact congrArg (fun x => Slot.v (.int x)) z2
  | exact z2
  | contradiction
  | exact (s1 (by assumption) (by assumption)).1
  | exact congrArg (fun x => Slot.v (.int x)) (s1 (by assumption) (by assumption)).2.2
  | (have q := s1 (by assumption) (by assumption); simp only [Bool.and_eq_true, decide_eq_true_eq]; constructor <;> omega)
  | exact (eqnt (hE _ _ _ _ _ _ _ _ _ _) (by assumption)).elim
  | (simp_all; done)
theorem ZeB.same (A0 : Option Addr) (c0 : Nat) (A1 : Option Addr) (c1 : Nat) (l : List Int) (w : World) (h0 : (Kd.int .i64).C w A0 l.length l) (h1 : (Kd.int .i64).C w A1 l.length l) :
 Calls Tryz.prog 28 #[.agg #[.slice A0 l.length c0], .agg #[.slice A1 l.length c1]] w fun e w' => e = .returned (.bool true) ∧ Below w.heap.size w w' := by
 obtain ⟨O, hO⟩ : ∃ O, O = std := ⟨_, rfl⟩
 have ne_ : ∀ x : Int, O.ne x x = true → False := fun x h => by
  rw [hO] at h
  exact absurd rfl (bne_iff_ne.1 h)
 have hX0 : CxOk Tryz.prog (mkXR O [] [] []) (fun _ => 0) 0 w := Zaw hO ZW Zap fun r => Zax rfl
 have bel : ∀ {d w'}, Upd (Bx d 0) w w' → Below w.heap.size w w' := fun hu => hu.below fun k ⟨i, hi, _⟩ => by omega
 refine ZaD (X := mkXR O [] [] []) (d1 := fun _ => 0) Tryz.func28 rfl (by kernel_rfl) hm hX0 [.agg [.slc A0 l.length c0], .agg [.slc A1 l.length c1]] 4 900 (Nat.le_of_ble_eq_true rfl) ?_
 generalize hQ : Owes _ _ _ _ _ _ = Q
 generalize hn : l.length = n0
 cbv
 subst hQ hn
 refine Zaf hm hX0 rfl rfl rfl ⟨_, Tryz.func15, rfl, rfl⟩ rfl fun d1 w1 hr1 => ⟨_, Zbr.same A0 c0 A1 c1 l w1 (Kd.C_below h0 (bel hr1.upd)) (Kd.C_below h1 (bel hr1.upd)), ?_⟩
 rintro e1 v1 ⟨rfl, hb1⟩
 have hs1 := hr1.below hb1
 have hX1 := hX0.reroot (hr1.below hb1)
 refine ⟨.bl true, 900, _, rfl, hb1, rfl, ?_⟩
 generalize hQ : Owes _ _ _ _ _ _ = Q
 generalize hn : l.length = n0
 cbv
 subst hQ hn
 exact Zav hX1 rfl fun d9 w9 hr9 => ⟨rfl, bel (hs1.comp hr9).upd⟩
theorem Zc5.same (s s' : Sl) (t : S52) (w : World) (h : SlOk s w t) (h' : SlOk s' w t) :
 Calls Tryz.prog 55 #[.agg #[.slice s.A0 t.f0.length s.c0, .int .i64 t.f1, .slice s.A2 t.f2.length s.c2, .slice s.A3 t.f3.length s.c3], .agg #[.slice s'.A0 t.f0.length s'.c0, .int .i64 t.f1, .slice s'.A2 t.f2.length s'.c2, .slice s'.A3 t.f3.length s'.c3]] w fun e w' => e = .returned (.bool true) ∧ Below w.heap.size w w' := by
 obtain ⟨O, hO⟩ : ∃ O, O = std := ⟨_, rfl⟩
 have ne_ : ∀ x : Int, O.ne x x = true → False := fun x h => by
  rw [hO] at h
  exact absurd rfl (bne_iff_ne.1 h)
 have hX0 : CxOk Tryz.prog (mkXR O [] [] []) (fun _ => 0) 0 w := Zaw hO ZW Zap fun r => Zax rfl
 have bel : ∀ {d w'}, Upd (Bx d 0) w w' → Below w.heap.size w w' := fun hu => hu.below fun k ⟨i, hi, _⟩ => by omega
 refine ZaD (X := mkXR O [] [] []) (d1 := fun _ => 0) Tryz.func55 rfl (by kernel_rfl) hm hX0 [.agg [.slc s.A0 t.f0.length s.c0, .int t.f1, .slc s.A2 t.f2.length s.c2, .slc s.A3 t.f3.length s.c3], .agg [.slc s'.A0 t.f0.length s'.c0, .int t.f1, .slc s'.A2 t.f2.length s'.c2, .slc s'.A3 t.f3.length s'.c3]] 5 900 (Nat.le_of_ble_eq_true rfl) ?_
 generalize hQ : Owes _ _ _ _ _ _ = Q
 generalize hn0 : t.f0.length = n0
 generalize hn1 : t.f1 = n1
 generalize hn2 : t.f2.length = n2
 generalize hn3 : t.f3.length = n3
 cbv
 subst hQ hn0 hn1 hn2 hn3
 refine Zaf hm hX0 rfl rfl rfl ⟨_, Tryz.func87, rfl, rfl⟩ rfl fun d1 w1 hr1 => ⟨_, Zdt.same s.A0 s.c0 s'.A0 s'.c0 t.f0 w1 (h.below (bel hr1.upd)).h0 (h'.below (bel hr1.upd)).h0, ?_⟩
 rintro e1 v1 ⟨rfl, hb1⟩
 have hs1 := hr1.below hb1
 have hX1 := hX0.reroot (hr1.below hb1)
 refine ⟨.bl true, 900, _, rfl, hb1, rfl, ?_⟩
 generalize hQ : Owes _ _ _ _ _ _ = Q
 generalize hn0 : t.f0.length = n0
 generalize hn1 : t.f1 = n1
 generalize hn2 : t.f2.length = n2
 generalize hn3 : t.f3.length = n3
 cbv
 refine ⟨fun h => (ne_ _ h).elim, fun _ => ?_⟩
 cbv
 subst hQ hn0 hn1 hn2 hn3
 refine Zaf hm hX1 rfl rfl rfl ⟨_, Tryz.func15, rfl, rfl⟩ rfl fun d2 w2 hr2 => ⟨_, Zbr.same s.A2 s.c2 s'.A2 s'.c2 t.f2 w2 (h.below (bel (hs1.comp hr2).upd)).h2 (h'.below (bel (hs1.comp hr2).upd)).h2, ?_⟩
 rintro e2 v2 ⟨rfl, hb2⟩
 have hs2 := (hs1.comp hr2).below hb2
 have hX2 := hX1.reroot (hr2.below hb2)
 refine ⟨.bl true, 900, _, rfl, hb2, rfl, ?_⟩
 generalize hQ : Owes _ _ _ _ _ _ = Q
 generalize hn0 : t.f0.length = n0
 generalize hn1 : t.f1 = n1
 generalize hn2 : t.f2.length = n2
 generalize hn3 : t.f3.length = n3
 cbv
 subst hQ hn0 hn1 hn2 hn3
 refine Zaf hm hX2 rfl rfl rfl ⟨_, Tryz.func15, rfl, rfl⟩ rfl fun d3 w3 hr3 => ⟨_, Zbr.same s.A3 s.c3 s'.A3 s'.c3 t.f3 w3 (h.below (bel (hs2.comp hr3).upd)).h3 (h'.below (bel (hs2.comp hr3).upd)).h3, ?_⟩
 rintro e3 v3 ⟨rfl, hb3⟩
 have hs3 := (hs2.comp hr3).below hb3
 have hX3 := hX2.reroot (hr3.below hb3)
 refine ⟨.bl true, 900, _, rfl, hb3, rfl, ?_⟩
 generalize hQ : Owes _ _ _ _ _ _ = Q
 generalize hn0 : t.f0.length = n0
 generalize hn1 : t.f1 = n1
 generalize hn2 : t.f2.length = n2
 generalize hn3 : t.f3.length = n3
 cbv
 subst hQ hn0 hn1 hn2 hn3
 exact Zav hX3 rfl fun d9 w9 hr9 => ⟨rfl, bel (hs3.comp hr9).upd⟩
open Classical in
noncomputable def eqG (n : Nat) (a b : Int → List AV) (L : List AV) : Option AV := if ∃ i : Nat, i < n ∧ L = [.agg (a i), .agg (b i)] then some (.bl true) else none
theorem ZcD.same (A0 : Option Addr) (c0 : Nat) (A1 : Option Addr) (c1 : Nat) (l : List S52) (w : World) (h0 : k52.C w A0 l.length l) (h1 : k52.C w A1 l.length l) :
 Calls Tryz.prog 29 #[.slice A0 l.length c0, .slice A1 l.length c1] w fun e w' => e = .returned (.bool true) ∧ Below w.heap.size w w' := by
 have hlen := h0.2.1
 obtain ⟨f, hf, hrow⟩ := Zbm c0 h0
 obtain ⟨g, hg, hrow'⟩ := Zbm c1 h1
 obtain ⟨G, hGd⟩ : ∃ G, G = eqG l.length (fun i => thC (f i) (rd_T52 l i)) (fun i => thC (g i) (rd_T52 l i)) := ⟨_, rfl⟩
 have hall : AllW [rowT A0 c0 l f, rowT A1 c1 l g] w [(55, G)] := ZbW ⟨_, Tryz.func55, rfl, rfl⟩ (fun L v hL w' hb => by
  rw [hGd] at hL
  unfold eqG at hL
  split at hL
  ·rename_i hex
   obtain ⟨i, hi, rfl⟩ := hex
   injection hL with hL
   subst hL
   exact Zc5.same (f i) (g i) (rd_T52 l i) w' ((hf i hi).below hb) ((hg i hi).below hb)
  ·cases hL) Zdc
 obtain ⟨j, hj⟩ : ∃ j : Nat → Int, ∀ k, j k = ((l.length + 1 - k : Nat) : Int) := ⟨_, fun _ => rfl⟩
 obtain ⟨N, hN⟩ : ∃ N, N = l.length + 1 := ⟨_, rfl⟩
 have no : ∀ a : Addr, ¬ Bx (fun _ => 0) 0 a.block := fun a ⟨i, hi, _⟩ => by omega
 refine Zbd (X := mkXR std [(55, G)] [] [rowT A0 c0 l f, rowT A1 c1 l g]) (d1 := fun _ => 0) Tryz.func29 rfl (by kernel_rfl) hm (ZcY rfl hall Zap (Zb8 (hrow _ 0 _ rfl fun a _ => no a) (hrow' _ 1 _ rfl fun a _ => no a))) [.sl 0, .sl 1] 5 600 (Nat.le_of_ble_eq_true rfl) (.bool true) N (by omega)
  (fun k => [(0, .v (.sl 0)), (1, .v (.sl 1)), (5, .v (.int (j k)))]) (fun k => []) (fun k => rfl) (fun _ => True) (fun k => ?_)
 obtain ⟨L0, hL0⟩ : ∃ L : Int → Nat, ∀ i, (rd_T52 l i).f0.length = L i := ⟨_, fun _ => rfl⟩
 obtain ⟨L1, hL1⟩ : ∃ L : Int → Int, ∀ i, (rd_T52 l i).f1 = L i := ⟨_, fun _ => rfl⟩
 obtain ⟨L2, hL2⟩ : ∃ L : Int → Nat, ∀ i, (rd_T52 l i).f2.length = L i := ⟨_, fun _ => rfl⟩
 obtain ⟨L3, hL3⟩ : ∃ L : Int → Nat, ∀ i, (rd_T52 l i).f3.length = L i := ⟨_, fun _ => rfl⟩
 have e6 : ∀ (A : Option Addr) (c : Nat) (f : Int → Sl), rowT A c l f = { a := A, g := (A.getD ⟨0, 0, none⟩).block, p := (A.getD ⟨0, 0, none⟩).off, n := l.length, c := c, sz := 4, get := fun i => [.slc (f i).A0 (L0 i) (f i).c0, .int (L1 i), .slc (f i).A2 (L2 i) (f i).c2, .slc (f i).A3 (L3 i) (f i).c3] } := fun A c f => by
  unfold rowT ZaA thC
  simp only [hL0, hL1, hL2, hL3]
 rw [e6, e6]
 have s1 : k < N → j (k + 1) < (l.length : Int) → 0 < k ∧ 0 ≤ j (k + 1) ∧ wrap64 (j (k + 1) + 1) = j k := by
  intro h1 h2
  rw [hj] at h2
  refine ⟨by omega, by rw [hj]; omega, ?_⟩
  rw [hj, hj]
  unfold wrap64
  omega
 have hG' : k < N → std.lt (j (k + 1)) (l.length : Int) = true → G [.agg [.slc (f (j (k + 1))).A0 (L0 (j (k + 1))) (f (j (k + 1))).c0, .int (L1 (j (k + 1))), .slc (f (j (k + 1))).A2 (L2 (j (k + 1))) (f (j (k + 1))).c2, .slc (f (j (k + 1))).A3 (L3 (j (k + 1))) (f (j (k + 1))).c3], .agg [.slc (g (j (k + 1))).A0 (L0 (j (k + 1))) (g (j (k + 1))).c0, .int (L1 (j (k + 1))), .slc (g (j (k + 1))).A2 (L2 (j (k + 1))) (g (j (k + 1))).c2, .slc (g (j (k + 1))).A3 (L3 (j (k + 1))) (g (j (k + 1))).c3]] = some (.bl true) := fun hk h => by
  have h2 := of_decide_eq_true (show decide (j (k + 1) < (l.length : Int)) = true from h)
  obtain ⟨q1, q2, q3⟩ := s1 hk h2
  rw [hGd]
  unfold eqG thC
  have e : j (k + 1) = ((j (k + 1)).toNat : Int) := by omega
  rw [if_pos ⟨(j (k + 1)).toNat, by omega, by rw [← e]; simp only [hL0, hL1, hL2, hL3]⟩]
 have z2 : 0 = j N := by rw [hj, hN, Nat.sub_self]; rfl
 generalize hO : std = O at hG' ⊢
 generalize l.length = n0 at *
 clear hj h0 h1 hall hrow hrow' hf hg hGd e6
 (try cbv)
 repeat' (apply And.intro <;> (try intros) <;> (try cbv) <;> (try (rw [hG' (by assumption) (by assumption)]; cbv)))
 all_goals (subst hO; (try dsimp only [std] at *); (try simp only [decide_eq_true_eq, decide_eq_false_iff_not, beq_iff_eq, beq_eq_false_iff_ne, bne_iff_ne, bne_eq_false_iff_eq, ne_eq, Int.ofNat_eq_natCast] at *))
 all_goals first
  | rfl
  | trivial
  | exact congrArg (fun x => Slot.v (.int x)) z2
  | exact z2
  | contradiction
  | exact (s1 (by assumption) (by assumption)).1
  | exact congrArg (fun x => Slot.v (.int x)) (s1 (by assumption) (by assumption)).2.2
  | (have q := s1 (by assumption) (by assumption); simp only [Bool.and_eq_true, decide_eq_true_eq]; constructor <;> omega)
  | (simp_all; done)
theorem ZaM.same (c : Cw) (A2 : Option Addr) (c2 : Nat) (A3 : Option Addr) (c3 : Nat) (B2 : Option Addr) (d2 : Nat) (B3 : Option Addr) (d3 : Nat) (w : World) (h2 : (Kd.int .i64).C w A2 c.m.length c.m) (h3 : k52.C w A3 c.l.length c.l) (g2 : (Kd.int .i64).C w B2 c.m.length c.m) (g3 : k52.C w B3 c.l.length c.l) :
 Calls Tryz.prog 9 #[cwV c (.slice A2 c.m.length c2) (.slice A3 c.l.length c3), cwV c (.slice B2 c.m.length d2) (.slice B3 c.l.length d3)] w fun e w' => e = .returned (.bool true) ∧ Below w.heap.size w w' := by
 obtain ⟨O, hO⟩ : ∃ O, O = std := ⟨_, rfl⟩
 have ne_ : ∀ x : Int, O.ne x x = true → False := fun x h => by
  rw [hO] at h
  exact absurd rfl (bne_iff_ne.1 h)
 have hX0 : CxOk Tryz.prog (mkXR O [] [] []) (fun _ => 0) 0 w := Zaw hO ZW Zap fun r => Zax rfl
 have bel : ∀ {d w'}, Upd (Bx d 0) w w' → Below w.heap.size w w' := fun hu => hu.below fun k ⟨i, hi, _⟩ => by omega
 refine ZaD (X := mkXR O [] [] []) (d1 := fun _ => 0) Tryz.func9 rfl (by kernel_rfl) hm hX0 [.agg [.int c.wh, .int c.sz, .slc A2 c.m.length c2, .slc A3 c.l.length c3, .int c.ck], .agg [.int c.wh, .int c.sz, .slc B2 c.m.length d2, .slc B3 c.l.length d3, .int c.ck]] 6 900 (Nat.le_of_ble_eq_true rfl) ?_
 generalize hQ : Owes _ _ _ _ _ _ = Q
 generalize hn0 : c.m.length = n0
 generalize hn1 : c.l.length = n1
 cbv
 refine ⟨fun h => (ne_ _ h).elim, fun _ => ?_⟩
 cbv
 refine ⟨fun h => (ne_ _ h).elim, fun _ => ?_⟩
 cbv
 subst hQ hn0 hn1
 refine Zaf hm hX0 rfl rfl rfl ⟨_, Tryz.func28, rfl, rfl⟩ rfl fun d1 w1 hr1 => ⟨_, ZeB.same A2 c2 B2 d2 c.m w1 (Kd.C_below h2 (bel hr1.upd)) (Kd.C_below g2 (bel hr1.upd)), ?_⟩
 rintro e1 v1 ⟨rfl, hb1⟩
 have hs1 := hr1.below hb1
 have hX1 := hX0.reroot (hr1.below hb1)
 refine ⟨.bl true, 900, _, rfl, hb1, rfl, ?_⟩
 generalize hQ : Owes _ _ _ _ _ _ = Q
 generalize hn0 : c.m.length = n0
 generalize hn1 : c.l.length = n1
 cbv
 subst hQ hn0 hn1
 refine Zaf hm hX1 rfl rfl rfl ⟨_, Tryz.func29, rfl, rfl⟩ rfl fun d2 w2 hr2 => ⟨_, ZcD.same A3 c3 B3 d3 c.l w2 (Kd.C_below h3 (bel (hs1.comp hr2).upd)) (Kd.C_below g3 (bel (hs1.comp hr2).upd)), ?_⟩
 rintro e2 v2 ⟨rfl, hb2⟩
 have hs2 := (hs1.comp hr2).below hb2
 have hX2 := hX1.reroot (hr2.below hb2)
 refine ⟨.bl true, 900, _, rfl, hb2, rfl, ?_⟩
 generalize hQ : Owes _ _ _ _ _ _ = Q
 generalize hn0 : c.m.length = n0
 generalize hn1 : c.l.length = n1
 cbv
 refine ⟨fun h => (ne_ _ h).elim, fun _ => ?_⟩
 cbv
 subst hQ hn0 hn1
 exact Zav hX2 rfl fun d9 w9 hr9 => ⟨rfl, bel (hs2.comp hr9).upd⟩
end Go.Proofs.YtgghglocfdcegaaGreat.Xec
namespace Go.Proofs.YtgghglocfdcegaaGreat.Xec.Plain
open Go Go.RowKit Go.Proofs.YtgghglocfdcegaaGreat.PFnExactCrewRun Go.Proofs.YtgghglocfdcegaaGreatW.PrintWords Go.Proofs.YtgghglocfdcegaaGreatW.PrintLast
set_option linter.unusedVariables false
set_option linter.unusedSimpArgs false
set_option maxRecDepth 100000
set_option maxHeartbeats 16000000
theorem Zgt (l : List Int) (j : Nat) : rd l (j : Int) = l.getD j 0 := by simp [rd]
theorem ZeO (x0 : List Int) (hx : x0.length ≤ 140737488355328) (d : Nat) : ∀ (k j : Nat) (x3 : List Int), x3.length = x0.length → x0.length - j = d → j ≤ x0.length → d < k → (∀ i, i < j → x3[i]? = x0[i]?) → laws_toIntS.l0 k x0 x3 (j : Int) = some x0 := by
 induction d with
 | zero =>
   intro k j x3 hl hd hj hk he
   obtain ⟨k, rfl⟩ : ∃ m, k = m + 1 := ⟨k - 1, by omega⟩
   simp only [laws_toIntS.l0]
   rw [if_neg (by omega)]
   refine congrArg some (List.ext_getElem? fun i => ?_)
   by_cases hi : i < j
   ·exact he i hi
   ·rw [List.getElem?_eq_none (by omega), List.getElem?_eq_none (by omega)]
 | succ d ih =>
   intro k j x3 hl hd hj hk he
   obtain ⟨k, rfl⟩ : ∃ m, k = m + 1 := ⟨k - 1, by omega⟩
   simp only [laws_toIntS.l0]
   rw [if_pos (by omega), if_pos (by omega), if_pos (by omega), w64 (by omega) (by omega)]
   refine ih k (j + 1) _ (by simpa using hl) (by omega) (by omega) (by omega) ?_
   intro i hi
   rw [Zgt, Int.toNat_natCast, List.getElem?_set]
   by_cases hij : j = i
   ·subst hij
    rw [if_pos rfl, if_pos (by omega), List.getElem?_eq_getElem (by omega)]
    simp [List.getD, List.getElem?_eq_getElem (show j < x0.length by omega)]
   ·rw [if_neg hij]
    exact he i (by omega)
theorem Zd3 (k : Nat) (l : List Int) (hl : l.length ≤ 1048576) (hk : l.length < k) : laws_toIntS.f k l = some l := by
 unfold laws_toIntS.f
 rw [if_pos (by omega), if_pos (by omega)]
 exact ZeO l (by omega) l.length k 0 _ (by simp) (by omega) (by omega) (by omega) (fun i hi => absurd hi (by omega))
theorem ZgJ (k : Nat) (l : List Int) (hl : l.length ≤ 1048576) (hk : l.length < k) : laws_toMem.f k l = some l := by
 unfold laws_toMem.f
 rw [Zd3 k l hl hk]; rfl
def conv (x : S114) : S54 := ⟨x.f0, x.f1, x.f2, x.f3, x.f4, x.f5, x.f6, x.f7, x.f8, x.f9⟩
theorem Zey (l : List S114) (j : Nat) : rd_T114 l (j : Int) = l.getD j z114 := by simp [rd_T114]
theorem Zeu (x0 : List S114) (hx : x0.length ≤ 1048576) (d : Nat) : ∀ (k j : Nat) (x3 : List S54), x3.length = x0.length → x0.length - j = d → j ≤ x0.length → d < k → (∀ i, i < j → x3[i]? = (x0.map conv)[i]?) → laws_toCallS.l0 k x0 x3 (j : Int) = some (x0.map conv) := by
 induction d with
 | zero =>
   intro k j x3 hl hd hj hk he
   obtain ⟨k, rfl⟩ : ∃ m, k = m + 1 := ⟨k - 1, by omega⟩
   simp only [laws_toCallS.l0]
   rw [if_neg (by omega)]
   refine congrArg some (List.ext_getElem? fun i => ?_)
   by_cases hi : i < j
   ·exact he i hi
   ·rw [List.getElem?_eq_none (show x3.length ≤ i by omega)]
    exact (List.getElem?_eq_none (by rw [List.length_map]; omega)).symm
 | succ d ih =>
   intro k j x3 hl hd hj hk he
   obtain ⟨k, rfl⟩ : ∃ m, k = m + 1 := ⟨k - 1, by omega⟩
   simp only [laws_toCallS.l0, laws_toCall.f]
   rw [if_pos (by omega), if_pos (by omega)]
   simp only [Option.bind_some]
   rw [if_pos (by omega), w64 (by omega) (by omega)]
   refine ih k (j + 1) _ (by simpa using hl) (by omega) (by omega) (by omega) ?_
   intro i hi
   rw [Zey, Int.toNat_natCast, List.getElem?_set]
   by_cases hij : j = i
   ·subst hij
    rw [if_pos rfl, if_pos (by omega), List.getElem?_eq_getElem (by rw [List.length_map]; omega), List.getElem_map]
    simp [conv, List.getD, List.getElem?_eq_getElem (show j < x0.length by omega)]
   ·rw [if_neg hij]
    exact he i (by omega)
theorem Zf5 (k : Nat) (l : List S114) (hl : l.length ≤ 1048576) (hk : l.length < k) : laws_toCallS.f k l = some (l.map conv) := by
 unfold laws_toCallS.f
 rw [if_pos (by omega), if_pos (by omega)]
 exact Zeu l (by omega) l.length k 0 _ (by simp) (by omega) (by omega) (by omega) (fun i hi => absurd hi (by omega))
theorem Zfm (k : Nat) (a : List S114) (b : Int) (c d : List Int) (h : a.length + c.length + d.length ≤ 1048576) (hk : 1048577 ≤ k) : laws_toThread.f k a b c d = some (a.map conv, b, c, d) := by
 unfold laws_toThread.f
 rw [Zf5 k a (by omega) (by omega), Zd3 k c (by omega) (by omega), Zd3 k d (by omega) (by omega)]
 rfl
def ZcR (t : S66) : S52 := ⟨t.f0.map conv, t.f1, t.f2, t.f3⟩
def tlen (t : S66) : Nat := t.f0.length + t.f2.length + t.f3.length
theorem ZbQ (l : List S66) (j : Nat) : rd_T66 l (j : Int) = l.getD j z66 := by simp [rd_T66]
theorem Zgv (l : List S52) (j : Nat) : rd_T52 l (j : Int) = l.getD j z52 := by simp [rd_T52]
theorem Zem (l : List S66) (j : Nat) (h : j < l.length) : l.getD j z66 ∈ l := by
 rw [List.getD_eq_getElem?_getD, List.getElem?_eq_getElem h]; exact List.getElem_mem _
theorem ZgI (l : List S52) (j : Nat) (h : j < l.length) : l.getD j z52 ∈ l := by
 rw [List.getD_eq_getElem?_getD, List.getElem?_eq_getElem h]; exact List.getElem_mem _
theorem ZeQ (a : List S114) (b : Int) (c d : List Int) (m : Int) (hm0 : 0 ≤ m) (hm : m ≤ 1048576) (ha : a.length ≤ maxLen) (hc : c.length ≤ maxLen) (hd : d.length ≤ maxLen) : (laws_szThread.f a b c d m = some (-1)) ∨ ((a.length + c.length + d.length : Int) ≤ m ∧ laws_szThread.f a b c d m = some (m - (a.length : Int) - (c.length : Int) - (d.length : Int))) := by
 simp only [maxLen] at ha hc hd
 unfold laws_szThread.f laws_szCallS.f laws_szIntS.f
 rw [w64 (x := m - (a.length : Int)) (by omega) (by omega)]
 by_cases h1 : m - (a.length : Int) < 0
 ·refine Or.inl ?_
  rw [if_pos h1]; rfl
 ·rw [if_neg h1]
  simp only [Option.bind_some]
  rw [if_neg h1, w64 (x := m - (a.length : Int) - (c.length : Int)) (by omega) (by omega)]
  by_cases h2 : m - (a.length : Int) - (c.length : Int) < 0
  ·refine Or.inl ?_
   rw [if_pos h2]; rfl
  ·rw [if_neg h2]
   simp only [Option.bind_some]
   rw [if_neg h2, w64 (x := m - (a.length : Int) - (c.length : Int) - (d.length : Int)) (by omega) (by omega)]
   by_cases h3 : m - (a.length : Int) - (c.length : Int) - (d.length : Int) < 0
   ·refine Or.inl ?_
    rw [if_pos h3]; rfl
   ·rw [if_neg h3]
    simp only [Option.bind_some]
    rw [if_neg h3]
    exact Or.inr ⟨by omega, rfl⟩
def fits (t : S66) : Prop := t.f0.length ≤ maxLen ∧ t.f2.length ≤ maxLen ∧ t.f3.length ≤ maxLen
theorem Zdh (l : List S66) (hl : l.length ≤ 1048576) (hf : ∀ t ∈ l, fits t) (d : Nat) : ∀ (j : Nat) (m : Int), 0 ≤ m → m ≤ 1048576 → l.length - j = d → j ≤ l.length →
 ((∀ k, d < k → laws_szThreadS.l0 k l m (j : Int) = some (-1)) ∨ ((∀ i, j ≤ i → i < l.length → tlen (l.getD i z66) ≤ 1048576) ∧ ∃ r, 0 ≤ r ∧ ∀ k, d < k → laws_szThreadS.l0 k l m (j : Int) = some r)) := by
 induction d with
 | zero =>
   intro j m h0 h1 hd hj
   refine Or.inr ⟨fun i h2 h3 => by omega, m, h0, fun k hk => ?_⟩
   obtain ⟨k, rfl⟩ : ∃ e, k = e + 1 := ⟨k - 1, by omega⟩
   simp only [laws_szThreadS.l0]
   rw [if_neg (by omega)]
 | succ d ih =>
   intro j m h0 h1 hd hj
   obtain ⟨f1, f2, f3⟩ := hf _ (Zem l j (by omega))
   have gw : wrap64 ((j : Int) + 1) = ((j + 1 : Nat) : Int) := by rw [w64 (by omega) (by omega)]; omega
   rcases ZeQ (l.getD j z66).f0 (l.getD j z66).f1 (l.getD j z66).f2 (l.getD j z66).f3 m h0 h1 f1 f2 f3 with h | ⟨hs, h⟩
   ·refine Or.inl fun k hk => ?_
    obtain ⟨k, rfl⟩ : ∃ e, k = e + 1 := ⟨k - 1, by omega⟩
    simp only [laws_szThreadS.l0]
    rw [if_pos (by omega), if_pos (by omega), ZbQ, h]; rfl
   ·rcases ih (j + 1) (m - ((l.getD j z66).f0.length : Int) - ((l.getD j z66).f2.length : Int) - ((l.getD j z66).f3.length : Int)) (by omega) (by omega) (by omega) (by omega) with h2 | ⟨h2, r, h3, h4⟩
    ·refine Or.inl fun k hk => ?_
     obtain ⟨k, rfl⟩ : ∃ e, k = e + 1 := ⟨k - 1, by omega⟩
     simp only [laws_szThreadS.l0]
     rw [if_pos (by omega), if_pos (by omega), ZbQ, h]
     simp only [Option.bind_some]
     rw [if_neg (by omega), gw]
     exact h2 k (by omega)
    ·refine Or.inr ⟨fun i h5 h6 => ?_, r, h3, fun k hk => ?_⟩
     ·by_cases e : i = j
      ·subst e; unfold tlen; omega
      ·exact h2 i (by omega) h6
     ·obtain ⟨k, rfl⟩ : ∃ e, k = e + 1 := ⟨k - 1, by omega⟩
      simp only [laws_szThreadS.l0]
      rw [if_pos (by omega), if_pos (by omega), ZbQ, h]
      simp only [Option.bind_some]
      rw [if_neg (by omega), gw]
      exact h4 k (by omega)
theorem ZfI (a b : Int) (c : List Int) (l : List S66) (e : Int) (hc : c.length ≤ maxLen) (hl : l.length ≤ maxLen) (hf : ∀ t ∈ l, fits t) : (∃ N, ∀ k, N ≤ k → laws_szCrew.f k a b c l e 1048576 = some (-1)) ∨ (c.length ≤ 1048576 ∧ l.length ≤ 1048576 ∧ (∀ t ∈ l, tlen t ≤ 1048576) ∧ ∃ N r, 0 ≤ r ∧ ∀ k, N ≤ k → laws_szCrew.f k a b c l e 1048576 = some r) := by
 simp only [maxLen] at hc hl
 unfold laws_szCrew.f laws_szMem.f laws_szIntS.f laws_szThreadS.f
 rw [w64 (x := 1048576 - (c.length : Int)) (by omega) (by omega)]
 by_cases h1 : 1048576 - (c.length : Int) < 0
 ·refine Or.inl ⟨0, fun k _ => ?_⟩
  simp only [h1, if_true, Option.bind_some]
  rfl
 ·simp only [h1, if_false, Option.bind_some]
  rw [w64 (x := 1048576 - (c.length : Int) - (l.length : Int)) (by omega) (by omega)]
  by_cases h2 : 1048576 - (c.length : Int) - (l.length : Int) < 0
  ·refine Or.inl ⟨0, fun k _ => ?_⟩
   simp only [h2, if_true]
   rfl
  ·simp only [h2, if_false]
   rcases Zdh l (by omega) hf l.length 0 (1048576 - (c.length : Int) - (l.length : Int)) (by omega) (by omega) (by omega) (by omega) with h | ⟨h3, r, h4, h5⟩
   ·refine Or.inl ⟨l.length + 1, fun k hk => ?_⟩
    have := h k (by omega)
    rw [show ((0 : Nat) : Int) = 0 from rfl] at this
    rw [this]; rfl
   ·refine Or.inr ⟨by omega, by omega, fun t ht => ?_, l.length + 1, r, h4, fun k hk => ?_⟩
    ·obtain ⟨i, hi, e⟩ := List.mem_iff_getElem.1 ht
     have := h3 i (by omega) hi
     rw [show l.getD i z66 = t by rw [← e]; simp [List.getD, hi]] at this
     exact this
    ·have := h5 k (by omega)
     rw [show ((0 : Nat) : Int) = 0 from rfl] at this
     rw [this]
     simp only [Option.bind_some]
     rw [if_neg (by omega)]
theorem Zdg (x0 : List S66) (hx : x0.length ≤ 1048576) (ht : ∀ t ∈ x0, tlen t ≤ 1048576) (d : Nat) : ∀ (k j : Nat) (x3 : List S52), x3.length = x0.length → x0.length - j = d → j ≤ x0.length → d + 1048577 < k → (∀ i, i < j → x3[i]? = (x0.map ZcR)[i]?) → laws_toThreadS.l0 k x0 x3 (j : Int) = some (x0.map ZcR) := by
 induction d with
 | zero =>
   intro k j x3 hl hd hj hk he
   obtain ⟨k, rfl⟩ : ∃ m, k = m + 1 := ⟨k - 1, by omega⟩
   simp only [laws_toThreadS.l0]
   rw [if_neg (by omega)]
   refine congrArg some (List.ext_getElem? fun i => ?_)
   by_cases hi : i < j
   ·exact he i hi
   ·rw [List.getElem?_eq_none (show x3.length ≤ i by omega)]
    exact (List.getElem?_eq_none (by rw [List.length_map]; omega)).symm
 | succ d ih =>
   intro k j x3 hl hd hj hk he
   obtain ⟨k, rfl⟩ : ∃ m, k = m + 1 := ⟨k - 1, by omega⟩
   have := ht _ (Zem x0 j (by omega))
   unfold tlen at this
   simp only [laws_toThreadS.l0]
   rw [if_pos (by omega), if_pos (by omega), ZbQ, Zfm k _ _ _ _ this (by omega)]
   simp only [Option.bind_some]
   rw [if_pos (by omega), w64 (by omega) (by omega)]
   refine ih k (j + 1) _ (by simpa using hl) (by omega) (by omega) (by omega) ?_
   intro i hi
   rw [Int.toNat_natCast, List.getElem?_set]
   by_cases hij : j = i
   ·subst hij
    rw [if_pos rfl, if_pos (by omega), List.getElem?_eq_getElem (by rw [List.length_map]; omega), List.getElem_map]
    simp [ZcR, List.getD, List.getElem?_eq_getElem (show j < x0.length by omega)]
   ·rw [if_neg hij]
    exact he i (by omega)
theorem Zgm (k : Nat) (a b : Int) (c : List Int) (l : List S66) (e : Int) (hc : c.length ≤ 1048576) (hl : l.length ≤ 1048576) (ht : ∀ t ∈ l, tlen t ≤ 1048576) (hk : 2200000 ≤ k) : laws_toCrew.f k a b c l e = some (a, b, c, l.map ZcR, e) := by
 unfold laws_toCrew.f laws_toThreadS.f
 rw [ZgJ k c hc (by omega)]
 simp only [Option.bind_some]
 rw [if_pos (by omega), if_pos (by omega)]
 rw [show (0 : Int) = ((0 : Nat) : Int) from rfl, Zdg l hl ht l.length k 0 _ (by simp) (by omega) (by omega) (by omega) (fun i hi => absurd hi (by omega))]
 rfl
end Go.Proofs.YtgghglocfdcegaaGreat.Xec.Plain
namespace Go.Proofs.YtgghglocfdcegaaGreat.Xec
open Go Go.RowKit Go.Proofs.YtgghglocfdcegaaGreat.PFnExactCrewRun Go.Proofs.YtgghglocfdcegaaGreatW.PrintWords Go.Proofs.YtgghglocfdcegaaGreatW.PrintLast
set_option linter.unusedVariables false
set_option linter.unusedSimpArgs false
set_option maxRecDepth 100000
set_option maxHeartbeats 16000000
theorem Zby.upd {B lo hi : Nat} {w w' : World} {c : Cw} {v2 v3 : Value} (h : Zby B lo hi w c v2 v3) {S : Nat → Prop} (hu : Upd S w w') (hs : ∀ q, lo ≤ q → q < hi → ¬ S q) : Zby B lo hi w' c v2 v3 :=
 ⟨Kd.R_step h.m fun q hq hlt => hu.block q hlt (hs q hq.1 hq.2), Kd.S_step h.l fun q hq hlt => hu.block q hlt (hs q hq.2.1 hq.2.2)⟩
structure Hc where
 lo : Nat
 hi : Nat
 c : Cw
 v2 : Value
 v3 : Value
structure LS (W : World) (d : Nat → Nat) (n : Nat) (w : World) (L : List Hc) : Prop where
 bel : Below W.heap.size W w
 new : ∀ i, i < n → W.heap.size ≤ d i
 lt : ∀ i, i < n → d i < w.heap.size
 held : ∀ h ∈ L, Zby W.heap.size h.lo h.hi w h.c h.v2 h.v3
 rng : ∀ h ∈ L, W.heap.size ≤ h.lo ∧ h.hi ≤ w.heap.size
 far : ∀ h ∈ L, ∀ i, i < n → d i < h.lo ∨ h.hi ≤ d i
 sep : L.Pairwise fun a b => a.hi ≤ b.lo ∨ b.hi ≤ a.lo
section
variable {W w w' : World} {d d' : Nat → Nat} {n : Nat} {L : List Hc}
theorem LS.start (w : World) (d : Nat → Nat) : LS w d 0 w [] := ⟨Below.refl _ _, fun _ h => absurd h (Nat.not_lt_zero _), fun _ h => absurd h (Nat.not_lt_zero _), fun _ h => absurd h (List.not_mem_nil), fun _ h => absurd h (List.not_mem_nil), fun _ h => absurd h (List.not_mem_nil), .nil⟩
theorem LS.step (h : LS W d n w L) {R : Nat → Row} {b : List (List AV)} (hr : Zak R d n w d' b w') : LS W d' b.length w' L := by
 have hW := h.bel.size
 have o : ∀ i, i < n → d' i = d i := hr.old
 have far : ∀ x ∈ L, ∀ i, i < b.length → d' i < x.lo ∨ x.hi ≤ d' i := fun x hx i hi => by
  by_cases hn : i < n
  ·rw [o i hn]
   exact h.far x hx i hn
  ·have := hr.new i (Nat.le_of_not_lt hn) hi
   have := (h.rng x hx).2
   omega
 refine ⟨Zar h.bel hr.upd ?_ hW, fun i hi => ?_, fun i hi => hr.lt hi, fun x hx => (h.held x hx).upd hr.upd ?_, fun x hx => ⟨(h.rng x hx).1, Nat.le_trans (h.rng x hx).2 hr.upd.size⟩, far, h.sep⟩
 ·rintro q ⟨i, hi, rfl⟩
  exact h.new i hi
 ·by_cases hn : i < n
  ·rw [o i hn]
   exact h.new i hn
  ·exact Nat.le_trans hW (hr.new i (Nat.le_of_not_lt hn) hi)
 ·rintro q q1 q2 ⟨i, hi, rfl⟩
  have := h.far x hx i hi
  omega
theorem LS.call (h : LS W d n w L) (hb : Below w.heap.size w w') : LS W d n w' L :=
 ⟨below_step h.bel hb, h.new, fun i hi => Nat.lt_of_lt_of_le (h.lt i hi) hb.size, fun x hx => (h.held x hx).below hb, fun x hx => ⟨(h.rng x hx).1, Nat.le_trans (h.rng x hx).2 hb.size⟩, h.far, h.sep⟩
theorem LS.made (h : LS W d n w L) (hb : Below w.heap.size w w') {c : Cw} {v2 v3 : Value} (hm : Made w w' c v2 v3) : LS W d n w' (⟨w.heap.size, w'.heap.size, c, v2, v3⟩ :: L) := by
 have g := h.call hb
 refine ⟨g.bel, g.new, g.lt, fun x hx => ?_, fun x hx => ?_, fun x hx i hi => ?_, .cons (fun x hx => .inr (h.rng x hx).2) g.sep⟩
 ·rcases List.mem_cons.1 hx with rfl | hx
  ·exact hm.held h.bel.size
  ·exact g.held x hx
 ·rcases List.mem_cons.1 hx with rfl | hx
  ·exact ⟨h.bel.size, Nat.le_refl _⟩
  ·exact g.rng x hx
 ·rcases List.mem_cons.1 hx with rfl | hx
  ·exact .inl (h.lt i hi)
  ·exact g.far x hx i hi
theorem LS.turn {L1 L2 : List Hc} {x : Hc} (h : LS W d n w (L1 ++ x :: L2)) {c : Cw} {v2 v3 : Value} (hx : Zby W.heap.size x.lo x.hi w' c v2 v3) (hb : Below W.heap.size W w') (hk : Kept w w' fun q => x.lo ≤ q ∧ q < x.hi) : LS W d n w' (L1 ++ ⟨x.lo, x.hi, c, v2, v3⟩ :: L2) := by
 have hmem : x ∈ L1 ++ x :: L2 := by simp
 have hs := List.pairwise_append.1 h.sep
 have hs2 := List.pairwise_cons.1 hs.2.1
 have oth : ∀ y ∈ L1 ++ ⟨x.lo, x.hi, c, v2, v3⟩ :: L2, y = ⟨x.lo, x.hi, c, v2, v3⟩ ∨ (y ∈ L1 ++ x :: L2 ∧ (y.hi ≤ x.lo ∨ x.hi ≤ y.lo)) := fun y hy => by
  rcases List.mem_append.1 hy with hy | hy
  ·exact .inr ⟨by simp [hy], hs.2.2 y hy x (by simp)⟩
  ·rcases List.mem_cons.1 hy with rfl | hy
   ·exact .inl rfl
   ·exact .inr ⟨by simp [hy], (hs2.1 y hy).symm⟩
 refine ⟨hb, h.new, fun i hi => Nat.lt_of_lt_of_le (h.lt i hi) hk.1, fun y hy => ?_, fun y hy => ?_, fun y hy i hi => ?_, ?_⟩
 ·rcases oth y hy with rfl | ⟨h1, h2⟩
  ·exact hx
  ·exact (h.held y h1).kept hk fun q q1 q2 q3 => by omega
 ·rcases oth y hy with rfl | ⟨h1, h2⟩
  ·exact ⟨(h.rng x hmem).1, Nat.le_trans (h.rng x hmem).2 hk.1⟩
  ·exact ⟨(h.rng y h1).1, Nat.le_trans (h.rng y h1).2 hk.1⟩
 ·rcases oth y hy with rfl | ⟨h1, h2⟩
  ·exact h.far x hmem i hi
  ·exact h.far y h1 i hi
 ·exact List.pairwise_append.2 ⟨hs.1, List.pairwise_cons.2 ⟨fun y hy => hs2.1 y hy, hs2.2⟩, fun a ha b hb => by
   rcases List.mem_cons.1 hb with rfl | hb
   ·exact hs.2.2 a ha x (by simp)
   ·exact hs.2.2 a ha b (by simp [hb])⟩
theorem LS.reads (h : LS W d n w L) {lo hi : Nat} {c : Cw} {A2 A3 : Option Addr} {n2 k2 n3 k3 : Nat} (hm : ⟨lo, hi, c, .slice A2 n2 k2, .slice A3 n3 k3⟩ ∈ L) : n2 = c.m.length ∧ n2 ≤ k2 ∧ (Kd.int .i64).C w A2 c.m.length c.m ∧ n3 = c.l.length ∧ n3 ≤ k3 ∧ k52.C w A3 c.l.length c.l := (h.held _ hm).reads
end
def Zb3 : Cw := ⟨0, 0, [], [], 0⟩
theorem Zdq (w w' : World) : Made w w' Zb3 (.slice none 0 0) (.slice none 0 0) := ⟨Kd.R_nil _ _ _ _ _, Kd.S_nil _ _ _ _ _⟩
theorem Zdd.made {w : World} {r : Option Cw} {e : Ending} {w' : World} (h : Zdd w r e w') : Below w.heap.size w w' ∧ ∃ A n k B m j, e = .returned (.tuple #[cwV (r.getD Zb3) (.slice A n k) (.slice B m j), .bool r.isSome]) ∧ Made w w' (r.getD Zb3) (.slice A n k) (.slice B m j) := by
 obtain ⟨hb, h⟩ := h
 refine ⟨hb, ?_⟩
 cases r with
 | none => exact ⟨none, 0, 0, none, 0, 0, h, Zdq _ _⟩
 | some c =>
   obtain ⟨v2, v3, h1, h2⟩ := h
   obtain ⟨A, n, k, B, m, j, rfl, rfl⟩ := h2.slices
   exact ⟨A, n, k, B, m, j, h1, h2⟩
section
variable {P : Program} {X : Cx} {d1 : Nat → Nat} {n1 : Nat} {w1 : World} {st : St}
theorem Zed (hm : P.follows .mixedOrders = true) (hX : CxOk P X d1 n1 w1) {fn : Func} {Post0 : Ending → World → Prop} {ops : Array Oper} {W : List Nat} {n' n i i2 : Nat} {o o2 : Oper} {l : List (Nat × Oper)} {K : List KI}
 (hgu : o.guard = none) (hgu2 : o2.guard = none) (hH : (hand ops.toList).contains i = false) (hH2 : (hand ops.toList).contains i2 = false) (hD : dsOf ops.toList = []) {c c2 : Call} (ho : o.op = .call c) (ho2 : o2.op = .call c2) {f f2 : FuncId} (hc : c.callee = .value (.func f)) (hc2 : c2.callee = .value (.func f2))
 (hn : ∃ fn, P.funcs[f]? = some fn ∧ (fn.name == "runtime.NumGoroutine") = false ∧ fn.body.isSome = true) (hn2 : ∃ fn, P.funcs[f2]? = some fn ∧ (fn.name == "runtime.NumGoroutine") = false ∧ fn.body.isSome = true) {A : List AV} (hl : evL st c.args.toList = some A)
 (h : ∀ d w, Zak X.R d1 n1 w1 d st.b w → ∃ Post, Calls P f (AV.vs X.R A).toArray w Post ∧ ∀ e w', Post e w' → ∃ y st' A2 Post2, e = .returned (y.v X.R) ∧ Below w.heap.size w w' ∧ putX st o.dst (.v y) st.b = some st' ∧ evL st' c2.args.toList = some A2 ∧ Calls P f2 (AV.vs X.R A2).toArray w' Post2 ∧ ∀ e2 w2, Post2 e2 w2 → ∃ y2 st2, e2 = .returned (y2.v X.R) ∧ Below w'.heap.size w' w2 ∧ putX st' o2.dst (.v y2) st.b = some st2 ∧ (segS X (hand ops.toList) (dsOf ops.toList) W (fun st => seg X n K st) (fun _ _ => .stuck 36) l st2).holds (Owes P X d st.b.length w2 (bodyPost P fn Post0))) :
 Owes P X d1 n1 w1 (bodyPost P fn Post0) (.stopS ops W n' K ((i, o) :: (i2, o2) :: l) st) := by
 intro hK d a w hR hr li hs hmem
 obtain ⟨Post, hcall, hpost⟩ := h d w hr
 obtain ⟨fn1, hf, hnm, hbd⟩ := hn
 obtain ⟨hc', hs'⟩ := ZbO hs hH
 have hfn : isFn o = true := by
  unfold isFn ZcN
  rw [ho]
  simp [hc]
 rw [if_pos (by simp [hfn])] at hc'
 refine one_ _ (hmem (i, o) (by simp)) rfl hc' (by rw [hD]; exact List.not_mem_nil) fun K' hK' => ?_
 rw [if_pos (by unfold Region.wanted; rw [hgu])]
 unfold Oper.wp
 rw [Zba ho hc hf hnm hbd w, Oper.upon_enter]
 have e : c.args.map a.eval = (AV.vs X.R A).toArray := by
  rw [← Zbv hR hl, ← Array.toList_map, Array.toArray_toList]
 rw [e]
 refine hcall.mono fun e w' hq => ?_
 obtain ⟨y, st', A2, Post2, rfl, hb, hp, hl2, hcall2, hpost2⟩ := hpost e w' hq
 obtain ⟨h1, h2⟩ := hR.put (d' := d) (fun _ _ => rfl) (Nat.le_refl _) (SOk.v ..) hp
 have h2 : st'.b = st.b := h2
 have hr' : Zak X.R d1 n1 w1 d st'.b w' := by
  rw [h2]
  exact hr.below hb
 refine hK' _ _ ⟨st.b, hr.below hb, rfl⟩ fun _ => ?_
 have hS : (fun w => ∃ b, Zak X.R d1 n1 w1 d b w ∧ Zay W 0 b = Zay W 0 st.b) = fun w => ∃ b, Zak X.R d1 n1 w1 d b w ∧ Zay W 0 b = Zay W 0 st'.b := by rw [h2]
 rw [hS]
 refine ZcQ (n := n) Zag hm hX hK h1 hr' hgu2 hH2 (by rw [hD]; exact List.not_mem_nil) ho2 hc2 hn2 hl2 hcall2 (fun e2 w2 hq2 => ?_) hs' (fun x hx => hmem x (by simp [hx]))
 obtain ⟨y2, st2, g1, g2, g3, g4⟩ := hpost2 e2 w2 hq2
 exact ⟨y2, st2, g1, g2, by rw [h2]; exact g3, by rw [h2]; exact g4⟩
end
end Go.Proofs.YtgghglocfdcegaaGreat.Xec
