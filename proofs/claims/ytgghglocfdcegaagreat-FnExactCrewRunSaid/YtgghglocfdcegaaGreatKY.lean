/- Part Y of the proof of FnExactCrewStep and FnExactCrewRun (wip/xec, pack.py). No condition. -/
import Derived.Test.YtgghglocfdcegaaGreatKW0
namespace Go.Proofs.YtgghglocfdcegaaGreat.Xec
open Go Go.RowKit Go.Proofs.YtgghglocfdcegaaGreat.PFnExactCrewRun Go.Proofs.YtgghglocfdcegaaGreatW.PrintWords
set_option linter.unusedVariables false
set_option linter.unusedSimpArgs false
set_option maxRecDepth 100000
set_option maxHeartbeats 16000000
theorem ZfJ (c : Cw) : 0 ≤ szC c := by
 have := ZcH c.l
 unfold szC
 omega
theorem Zcr {c : Cw} {a : Int} (h0 : 0 ≤ a) (h1 : a + szC c < 9223372036854775808) : (mkK c a).2 = a + szC c := by
 have hnn := ZcH c.l
 unfold szC at *
 have hb : (mkI c.m a).2 = a + c.m.length := (Zbc c.m a h0 (by omega)).1
 show (mkT c.l (mkI c.m a).2).2 = _
 rw [(ZcZ c.l _ (by omega) (by omega)).1, hb]
 omega
theorem Zef {c : Cw} {a : Int} (h0 : 0 ≤ a) (h1 : a + szC c < 9223372036854775808) : 0 ≤ (mkK c a).2 := by
 have := ZfJ c
 rw [Zcr h0 h1]
 omega
theorem Zbs.small (a b e : Int) (A2 : Option Addr) (n2 c2 : Nat) (A3 : Option Addr) (n3 c3 : Nat) (p : Int) (w : World) (r : Int) (HZ : ∀ w', Below w.heap.size w w' → Calls Tryz.prog 5 #[crV a b A2 n2 c2 A3 n3 c3 e, .int .i64 1048576] w' fun e w2 => e = .returned (.int .i64 r) ∧ Below w'.heap.size w' w2) (hr0 : r < 0) :
 Calls Tryz.prog 3 #[crV a b A2 n2 c2 A3 n3 c3 e, .int .i64 p] w fun e w' => e = .returned (.bool true) ∧ Below w.heap.size w w' := by
 obtain ⟨O, hO⟩ : ∃ O, O = std := ⟨_, rfl⟩
 have hX : ∀ d n w, CxOk Tryz.prog (mkXR O [] [] []) d n w := fun d n w => Zaw hO ZW Zap fun r => Zax rfl
 have ltf : ∀ x y : Int, y ≤ x → O.lt x y = false := fun x y h => by
  rw [hO]
  exact decide_eq_false (by omega)
 have nef : ∀ x : Int, O.ne x x = false := fun x => by
  rw [hO]
  exact bne_self_eq_false x
 have neb : ∀ x : Bool, O.bne x x = false := fun x => by
  rw [hO]
  exact bne_self_eq_false x
 have no : ∀ {b : Bool}, b = false → b = true → False := fun h h' => fls h' h
 have ltt : ∀ x y : Int, x < y → O.lt x y = true := fun x y h => by
  rw [hO]
  exact decide_eq_true h
 refine ZaD (X := mkXR O [] [] []) (d1 := fun _ => 0) Tryz.func3 rfl (by kernel_rfl) hm (hX _ _ _) [.agg [.int a, .int b, .slc A2 n2 c2, .slc A3 n3 c3, .int e], .int p] 7 900 (Nat.le_of_ble_eq_true rfl) ?_
 have S0 := LS.start w (fun _ => 0)
 generalize hQ : Owes _ _ _ _ _ _ = Q
 cbv
 subst hQ
 refine Zaf hm (hX _ _ _) rfl rfl rfl ⟨_, Tryz.func5, rfl, rfl⟩ rfl fun d1 w1 hr => ?_
 have S1 := S0.step hr
 refine ⟨_, HZ w1 S1.bel, ?_⟩
 rintro e_ v_ ⟨rfl, hb⟩
 replace S1 := S1.call hb
 refine ⟨.int r, 900, _, rfl, hb, rfl, ?_⟩
 generalize hQ : Owes _ _ _ _ _ _ = Q
 cbv
 refine ⟨fun _ => ?_, fun h => (no h (ltt _ _ hr0)).elim⟩
 cbv
 subst hQ
 exact Zav (hX _ _ _) rfl fun d w_ hr => ⟨rfl, (S1.step hr).bel⟩
theorem Za0.small (a b e : Int) (A2 : Option Addr) (n2 c2 : Nat) (A3 : Option Addr) (n3 c3 : Nat) (Ap : Option Addr) (np cp : Nat) (hps : np ≤ 1048576) (w : World) (r : Int) (HZ : ∀ w', Below w.heap.size w w' → Calls Tryz.prog 5 #[crV a b A2 n2 c2 A3 n3 c3 e, .int .i64 1048576] w' fun e w2 => e = .returned (.int .i64 r) ∧ Below w'.heap.size w' w2) (hr0 : r < 0) :
 Calls Tryz.prog 4 #[crV a b A2 n2 c2 A3 n3 c3 e, .slice Ap np cp] w fun e w' => e = .returned (.bool true) ∧ Below w.heap.size w w' := by
 obtain ⟨O, hO⟩ : ∃ O, O = std := ⟨_, rfl⟩
 have hX : ∀ d n w, CxOk Tryz.prog (mkXR O [] [] []) d n w := fun d n w => Zaw hO ZW Zap fun r => Zax rfl
 have ltf : ∀ x y : Int, y ≤ x → O.lt x y = false := fun x y h => by
  rw [hO]
  exact decide_eq_false (by omega)
 have nef : ∀ x : Int, O.ne x x = false := fun x => by
  rw [hO]
  exact bne_self_eq_false x
 have neb : ∀ x : Bool, O.bne x x = false := fun x => by
  rw [hO]
  exact bne_self_eq_false x
 have no : ∀ {b : Bool}, b = false → b = true → False := fun h h' => fls h' h
 have ltt : ∀ x y : Int, x < y → O.lt x y = true := fun x y h => by
  rw [hO]
  exact decide_eq_true h
 refine ZaD (X := mkXR O [] [] []) (d1 := fun _ => 0) Tryz.func4 rfl (by kernel_rfl) hm (hX _ _ _) [.agg [.int a, .int b, .slc A2 n2 c2, .slc A3 n3 c3, .int e], .slc Ap np cp] 7 900 (Nat.le_of_ble_eq_true rfl) ?_
 have S0 := LS.start w (fun _ => 0)
 generalize hQ : Owes _ _ _ _ _ _ = Q
 cbv
 refine ⟨fun h => (no (ltf 1048576 (np : Int) (by omega)) h).elim, fun _ => ?_⟩
 cbv
 subst hQ
 refine Zaf hm (hX _ _ _) rfl rfl rfl ⟨_, Tryz.func5, rfl, rfl⟩ rfl fun d1 w1 hr => ?_
 have S1 := S0.step hr
 refine ⟨_, HZ w1 S1.bel, ?_⟩
 rintro e_ v_ ⟨rfl, hb⟩
 replace S1 := S1.call hb
 refine ⟨.int r, 900, _, rfl, hb, rfl, ?_⟩
 generalize hQ : Owes _ _ _ _ _ _ = Q
 cbv
 refine ⟨fun _ => ?_, fun h => (no h (ltt _ _ hr0)).elim⟩
 cbv
 subst hQ
 exact Zav (hX _ _ _) rfl fun d w_ hr => ⟨rfl, (S1.step hr).bel⟩
theorem Za0.long (a b e : Int) (A2 : Option Addr) (n2 c2 : Nat) (A3 : Option Addr) (n3 c3 : Nat) (Ap : Option Addr) (np cp : Nat) (hps : 1048576 < np) (w : World) :
 Calls Tryz.prog 4 #[crV a b A2 n2 c2 A3 n3 c3 e, .slice Ap np cp] w fun e w' => e = .returned (.bool true) ∧ Below w.heap.size w w' := by
 obtain ⟨O, hO⟩ : ∃ O, O = std := ⟨_, rfl⟩
 have hX : ∀ d n w, CxOk Tryz.prog (mkXR O [] [] []) d n w := fun d n w => Zaw hO ZW Zap fun r => Zax rfl
 have ltf : ∀ x y : Int, y ≤ x → O.lt x y = false := fun x y h => by
  rw [hO]
  exact decide_eq_false (by omega)
 have nef : ∀ x : Int, O.ne x x = false := fun x => by
  rw [hO]
  exact bne_self_eq_false x
 have neb : ∀ x : Bool, O.bne x x = false := fun x => by
  rw [hO]
  exact bne_self_eq_false x
 have no : ∀ {b : Bool}, b = false → b = true → False := fun h h' => fls h' h
 have ltt : ∀ x y : Int, x < y → O.lt x y = true := fun x y h => by
  rw [hO]
  exact decide_eq_true h
 refine ZaD (X := mkXR O [] [] []) (d1 := fun _ => 0) Tryz.func4 rfl (by kernel_rfl) hm (hX _ _ _) [.agg [.int a, .int b, .slc A2 n2 c2, .slc A3 n3 c3, .int e], .slc Ap np cp] 7 900 (Nat.le_of_ble_eq_true rfl) ?_
 have S0 := LS.start w (fun _ => 0)
 generalize hQ : Owes _ _ _ _ _ _ = Q
 cbv
 refine ⟨fun _ => ?_, fun h => (no h (ltt 1048576 (np : Int) (by omega))).elim⟩
 cbv
 subst hQ
 exact Zav (hX _ _ _) rfl fun d w_ hr => ⟨rfl, (S0.step hr).bel⟩
theorem Zbs.go (a b e p : Int) (A2 : Option Addr) (n2 c2 : Nat) (A3 : Option Addr) (n3 c3 : Nat) (w : World) (r : Int) (x y : Cw) (fl : Bool)
 (HZ : ∀ w', Below w.heap.size w w' → Calls Tryz.prog 5 #[crV a b A2 n2 c2 A3 n3 c3 e, .int .i64 1048576] w' fun e w2 => e = .returned (.int .i64 r) ∧ Below w'.heap.size w' w2) (hr0 : 0 ≤ r)
 (HT : ∀ w', Below w.heap.size w w' → Calls Tryz.prog 7 #[crV a b A2 n2 c2 A3 n3 c3 e] w' fun e w2 => ∃ A n k B m j, e = .returned (cwV x (.slice A n k) (.slice B m j)) ∧ Made w' w2 x (.slice A n k) (.slice B m j) ∧ Below w'.heap.size w' w2)
 (HS : ∀ B2 k2 B3 k3 w', (Kd.int .i64).C w' B2 x.m.length x.m → x.m.length ≤ k2 → k52.C w' B3 x.l.length x.l → x.l.length ≤ k3 → Calls Tryz.prog 6 #[crV x.wh x.sz B2 x.m.length k2 B3 x.l.length k3 x.ck, .int .i64 p] w' fun e w2 => Below w'.heap.size w' w2 ∧ ∃ A n k B m j, e = .returned (.tuple #[cwV y (.slice A n k) (.slice B m j), .bool fl]) ∧ Made w' w2 y (.slice A n k) (.slice B m j))
 (HI : ∀ B2 k2 B3 k3 w', (Kd.int .i64).C w' B2 x.m.length x.m → x.m.length ≤ k2 → k52.C w' B3 x.l.length x.l → x.l.length ≤ k3 → Calls Tryz.prog 8 #[crV x.wh x.sz B2 x.m.length k2 B3 x.l.length k3 x.ck, .int .i64 p] w' fun e w2 => Below w'.heap.size w' w2 ∧ ∃ A n k B m j, e = .returned (.tuple #[cwV y (.slice A n k) (.slice B m j), .bool fl]) ∧ Made w' w2 y (.slice A n k) (.slice B m j))
 (hz1 : 1 + szC x < 9223372036854775808) (hz2 : 1 + szC y < 9223372036854775808) :
 Calls Tryz.prog 3 #[crV a b A2 n2 c2 A3 n3 c3 e, .int .i64 p] w fun e w' => e = .returned (.bool true) ∧ Below w.heap.size w w' := by
 obtain ⟨O, hO⟩ : ∃ O, O = std := ⟨_, rfl⟩
 have hX : ∀ d n w, CxOk Tryz.prog (mkXR O [] [] []) d n w := fun d n w => Zaw hO ZW Zap fun r => Zax rfl
 have ltf : ∀ x y : Int, y ≤ x → O.lt x y = false := fun x y h => by
  rw [hO]
  exact decide_eq_false (by omega)
 have nef : ∀ x : Int, O.ne x x = false := fun x => by
  rw [hO]
  exact bne_self_eq_false x
 have neb : ∀ x : Bool, O.bne x x = false := fun x => by
  rw [hO]
  exact bne_self_eq_false x
 have no : ∀ {b : Bool}, b = false → b = true → False := fun h h' => fls h' h
 refine ZaD (X := mkXR O [] [] []) (d1 := fun _ => 0) Tryz.func3 rfl (by kernel_rfl) hm (hX _ _ _) [.agg [.int a, .int b, .slc A2 n2 c2, .slc A3 n3 c3, .int e], .int p] 7 900 (Nat.le_of_ble_eq_true rfl) ?_
 have S0 := LS.start w (fun _ => 0)
 generalize hQ : Owes _ _ _ _ _ _ = Q
 generalize hl1 : x.m.length = l1
 generalize hl2 : x.l.length = l2
 generalize hl3 : y.m.length = l3
 generalize hl4 : y.l.length = l4
 cbv
 subst hQ hl1 hl2 hl3 hl4
 refine Zaf hm (hX _ _ _) rfl rfl rfl ⟨_, Tryz.func5, rfl, rfl⟩ rfl fun d1 w1 hr => ?_
 have S1 := S0.step hr
 clear hr S0
 refine ⟨_, HZ w1 S1.bel, ?_⟩
 rintro e_ v_ ⟨rfl, hb⟩
 replace S1 := S1.call hb
 refine ⟨.int r, 900, _, rfl, hb, rfl, ?_⟩
 clear hb
 generalize hQ : Owes _ _ _ _ _ _ = Q
 generalize hl1 : x.m.length = l1
 generalize hl2 : x.l.length = l2
 generalize hl3 : y.m.length = l3
 generalize hl4 : y.l.length = l4
 cbv
 refine ⟨fun h => (no (ltf _ _ hr0) h).elim, fun _ => ?_⟩
 cbv
 subst hQ hl1 hl2 hl3 hl4
 refine Zaf hm (hX _ _ _) rfl rfl rfl ⟨_, Tryz.func7, rfl, rfl⟩ rfl fun d2 w2 hr => ?_
 have S2 := S1.step hr
 clear hr S1
 refine ⟨_, HT w2 S2.bel, ?_⟩
 rintro e_ v_ ⟨A_a, n_a, k_a, B_a, m_a, j_a, rfl, hM, hb⟩
 replace S2 := S2.made hb hM
 clear hM
 obtain ⟨rfl, -, -, rfl, -, -⟩ := S2.reads (.head _)
 refine ⟨.agg [.int x.wh, .int x.sz, .slc A_a x.m.length k_a, .slc B_a x.l.length j_a, .int x.ck], 900, _, rfl, hb, rfl, ?_⟩
 clear hb
 generalize hQ : Owes _ _ _ _ _ _ = Q
 generalize hl1 : x.m.length = l1
 generalize hl2 : x.l.length = l2
 generalize hl3 : y.m.length = l3
 generalize hl4 : y.l.length = l4
 cbv
 subst hQ hl1 hl2 hl3 hl4
 refine Zaf hm (hX _ _ _) rfl rfl rfl ⟨_, Tryz.func6, rfl, rfl⟩ rfl fun d3 w3 hr => ?_
 have S3 := S2.step hr
 clear hr S2
 obtain ⟨-, g1, g2, -, g3, g4⟩ := S3.reads (.head _)
 refine ⟨_, HS _ _ _ _ w3 g2 g1 g4 g3, ?_⟩
 clear g1 g2 g3 g4
 rintro e_ v_ ⟨hb, A_w, n_w, k_w, B_w, m_w, j_w, rfl, hM⟩
 replace S3 := S3.made hb hM
 clear hM
 obtain ⟨rfl, -, -, rfl, -, -⟩ := S3.reads (.head _)
 refine ⟨.tup [.agg [.int y.wh, .int y.sz, .slc A_w y.m.length k_w, .slc B_w y.l.length j_w, .int y.ck], .bool fl], 900, _, rfl, hb, rfl, ?_⟩
 clear hb
 generalize hQ : Owes _ _ _ _ _ _ = Q
 generalize hl1 : x.m.length = l1
 generalize hl2 : x.l.length = l2
 generalize hl3 : y.m.length = l3
 generalize hl4 : y.l.length = l4
 cbv
 subst hQ hl1 hl2 hl3 hl4
 refine Zaf hm (hX _ _ _) rfl rfl rfl ⟨_, Tryz.func7, rfl, rfl⟩ rfl fun d4 w4 hr => ?_
 have S4 := S3.step hr
 clear hr S3
 refine ⟨_, HT w4 S4.bel, ?_⟩
 rintro e_ v_ ⟨A_x, n_x, k_x, B_x, m_x, j_x, rfl, hM, hb⟩
 replace S4 := S4.made hb hM
 clear hM
 obtain ⟨rfl, -, -, rfl, -, -⟩ := S4.reads (.head _)
 refine ⟨.agg [.int x.wh, .int x.sz, .slc A_x x.m.length k_x, .slc B_x x.l.length j_x, .int x.ck], 900, _, rfl, hb, rfl, ?_⟩
 clear hb
 generalize hQ : Owes _ _ _ _ _ _ = Q
 generalize hl1 : x.m.length = l1
 generalize hl2 : x.l.length = l2
 generalize hl3 : y.m.length = l3
 generalize hl4 : y.l.length = l4
 cbv
 subst hQ hl1 hl2 hl3 hl4
 refine Zaf hm (hX _ _ _) rfl rfl rfl ⟨_, Tryz.func8, rfl, rfl⟩ rfl fun d5 w5 hr => ?_
 have S5 := S4.step hr
 clear hr S4
 obtain ⟨-, g1, g2, -, g3, g4⟩ := S5.reads (.head _)
 refine ⟨_, HI _ _ _ _ w5 g2 g1 g4 g3, ?_⟩
 clear g1 g2 g3 g4
 rintro e_ v_ ⟨hb, A_g, n_g, k_g, B_g, m_g, j_g, rfl, hM⟩
 replace S5 := S5.made hb hM
 clear hM
 obtain ⟨rfl, -, -, rfl, -, -⟩ := S5.reads (.head _)
 refine ⟨.tup [.agg [.int y.wh, .int y.sz, .slc A_g y.m.length k_g, .slc B_g y.l.length j_g, .int y.ck], .bool fl], 900, _, rfl, hb, rfl, ?_⟩
 clear hb
 generalize hQ : Owes _ _ _ _ _ _ = Q
 generalize hl1 : x.m.length = l1
 generalize hl2 : x.l.length = l2
 generalize hl3 : y.m.length = l3
 generalize hl4 : y.l.length = l4
 cbv
 subst hQ hl1 hl2 hl3 hl4
 refine Zaf hm (hX _ _ _) rfl rfl rfl ⟨_, Tryz.func9, rfl, rfl⟩ rfl fun d6 w6 hr => ?_
 have S6 := S5.step hr
 clear hr S5
 obtain ⟨-, g1, g2, -, g3, g4⟩ := S6.reads (.head _)
 obtain ⟨-, g5, g6, -, g7, g8⟩ := S6.reads (.tail _ (.tail _ (.head _)))
 refine ⟨_, ZaM.same _ _ _ _ _ _ _ _ _ w6 g2 g4 g6 g8, ?_⟩
 clear g1 g2 g3 g4 g5 g6 g7 g8
 rintro e_ v_ ⟨rfl, hb⟩
 replace S6 := S6.call hb
 refine ⟨.bl true, 900, _, rfl, hb, rfl, ?_⟩
 clear hb
 generalize hQ : Owes _ _ _ _ _ _ = Q
 generalize hl1 : x.m.length = l1
 generalize hl2 : x.l.length = l2
 generalize hl3 : y.m.length = l3
 generalize hl4 : y.l.length = l4
 cbv
 refine ⟨fun h => (no (neb fl) h).elim, fun _ => ?_⟩
 cbv
 subst hQ hl1 hl2 hl3 hl4
 refine Zed (n := 900) hm (hX _ _ _) rfl rfl rfl rfl rfl rfl rfl rfl rfl ⟨_, Tryz.func7, rfl, rfl⟩ ⟨_, Tryz.func9, rfl, rfl⟩ rfl fun d7 w7 hr => ?_
 have S7 := S6.step hr
 clear hr S6
 refine ⟨_, HT w7 S7.bel, ?_⟩
 rintro e_ v_ ⟨A_b, n_b, k_b, B_b, m_b, j_b, rfl, hM, hb⟩
 replace S7 := S7.made hb hM
 clear hM
 obtain ⟨rfl, -, -, rfl, -, -⟩ := S7.reads (.head _)
 obtain ⟨-, g1, g2, -, g3, g4⟩ := S7.reads (.tail _ (.tail _ (.head _)))
 obtain ⟨-, g5, g6, -, g7, g8⟩ := S7.reads (.head _)
 refine ⟨.agg [.int x.wh, .int x.sz, .slc A_b x.m.length k_b, .slc B_b x.l.length j_b, .int x.ck], _, _, _, rfl, hb, rfl, rfl, ZaM.same _ _ _ _ _ _ _ _ _ v_ g2 g4 g6 g8, ?_⟩
 clear g1 g2 g3 g4 g5 g6 g7 g8 hb
 rintro e_ v2_ ⟨rfl, hb⟩
 replace S7 := S7.call hb
 refine ⟨.bl true, _, rfl, hb, rfl, ?_⟩
 clear hb
 generalize hQ : Owes _ _ _ _ _ _ = Q
 generalize hl1 : x.m.length = l1
 generalize hl2 : x.l.length = l2
 generalize hl3 : y.m.length = l3
 generalize hl4 : y.l.length = l4
 cbv
 subst hQ hl1 hl2 hl3 hl4
 refine ZaL hm rfl rfl rfl ⟨_, Tryz.func10, rfl, rfl⟩ rfl fun d8 w8 hr => ?_
 have S8 := S7.step hr
 clear hr S7
 refine ⟨_, Za3.walk _ _ _ 1 w w8 _ _ (S8.rng _ (.tail _ (.tail _ (.head _)))).2 (S8.rng _ (.tail _ (.tail _ (.head _)))).1 S8.bel (S8.held _ (.tail _ (.tail _ (.head _)))), ?_⟩
 rintro e_ v_ ⟨rfl, hH, hB, hK⟩
 have far := S8.far _ (.tail _ (.tail _ (.head _)))
 replace S8 := LS.turn (L1 := [_, _]) S8 hH hB hK
 clear hH hB
 refine ⟨.int (mkK x 1).2, 900, _, _, rfl, hK, fun i hi hs => by have := far i hi; have := hs; omega, hX _ _ _, rfl, ?_⟩
 clear hK far
 have n8 : 0 ≤ (mkK x 1).2 := Zef (by omega) (by omega)
 have u8 := Zcr (c := x) (a := 1) (by omega) (by omega)
 generalize hk8 : (mkK x 1).2 = k8 at n8 u8 ⊢
 generalize hQ : Owes _ _ _ _ _ _ = Q
 generalize hl1 : x.m.length = l1
 generalize hl2 : x.l.length = l2
 generalize hl3 : y.m.length = l3
 generalize hl4 : y.l.length = l4
 cbv
 refine ⟨fun h => (no (ltf _ _ n8) h).elim, fun _ => ?_⟩
 cbv
 subst hQ hl1 hl2 hl3 hl4
 refine Zaf hm (hX _ _ _) rfl rfl rfl ⟨_, Tryz.func9, rfl, rfl⟩ rfl fun d9 w9 hr => ?_
 have S9 := S8.step hr
 clear hr S8
 obtain ⟨-, g1, g2, -, g3, g4⟩ := S9.reads (.tail _ (.head _))
 obtain ⟨-, g5, g6, -, g7, g8⟩ := S9.reads (.tail _ (.tail _ (.tail _ (.head _))))
 refine ⟨_, ZaM.same _ _ _ _ _ _ _ _ _ w9 g2 g4 g6 g8, ?_⟩
 clear g1 g2 g3 g4 g5 g6 g7 g8
 rintro e_ v_ ⟨rfl, hb⟩
 replace S9 := S9.call hb
 refine ⟨.bl true, 900, _, rfl, hb, rfl, ?_⟩
 clear hb
 generalize hQ : Owes _ _ _ _ _ _ = Q
 generalize hl1 : x.m.length = l1
 generalize hl2 : x.l.length = l2
 generalize hl3 : y.m.length = l3
 generalize hl4 : y.l.length = l4
 cbv
 refine ⟨fun h => (no (neb fl) h).elim, fun _ => ?_⟩
 cbv
 subst hQ hl1 hl2 hl3 hl4
 refine ZaL hm rfl rfl rfl ⟨_, Tryz.func10, rfl, rfl⟩ rfl fun d10 w10 hr => ?_
 have S10 := S9.step hr
 clear hr S9
 refine ⟨_, Za3.walk _ _ _ 1 w w10 _ _ (S10.rng _ (.tail _ (.head _))).2 (S10.rng _ (.tail _ (.head _))).1 S10.bel (S10.held _ (.tail _ (.head _))), ?_⟩
 rintro e_ v_ ⟨rfl, hH, hB, hK⟩
 have far := S10.far _ (.tail _ (.head _))
 replace S10 := LS.turn (L1 := [_]) S10 hH hB hK
 clear hH hB
 refine ⟨.int (mkK y 1).2, 900, _, _, rfl, hK, fun i hi hs => by have := far i hi; have := hs; omega, hX _ _ _, rfl, ?_⟩
 clear hK far
 have n10 : 0 ≤ (mkK y 1).2 := Zef (by omega) (by omega)
 have u10 := Zcr (c := y) (a := 1) (by omega) (by omega)
 generalize hk10 : (mkK y 1).2 = k10 at n10 u10 ⊢
 generalize hQ : Owes _ _ _ _ _ _ = Q
 generalize hl1 : x.m.length = l1
 generalize hl2 : x.l.length = l2
 generalize hl3 : y.m.length = l3
 generalize hl4 : y.l.length = l4
 cbv
 subst hQ hl1 hl2 hl3 hl4
 refine Zaf hm (hX _ _ _) rfl rfl rfl ⟨_, Tryz.func11, rfl, rfl⟩ rfl fun d11 w11 hr => ?_
 have S11 := S10.step hr
 clear hr S10
 obtain ⟨q1, q2, q3, q4, q5, q6⟩ := S11.reads (.tail _ (.head _))
 refine ⟨_, Za4.walk y _ _ _ _ 1 w11 (by omega) (by unfold szC at *; omega) (by rw [q1]; exact q3) (by rw [q4]; exact q6), ?_⟩
 clear q1 q2 q3 q4 q5 q6
 rintro e_ v_ ⟨rfl, hb⟩
 replace S11 := S11.call hb
 refine ⟨.int (mkK y 1).2, 900, _, rfl, hb, rfl, ?_⟩
 clear hb
 rw [hk10]
 generalize hQ : Owes _ _ _ _ _ _ = Q
 generalize hl1 : x.m.length = l1
 generalize hl2 : x.l.length = l2
 generalize hl3 : y.m.length = l3
 generalize hl4 : y.l.length = l4
 cbv
 refine ⟨fun h => (no (ltf _ _ n10) h).elim, fun _ => ?_⟩
 cbv
 refine ⟨fun h => (no (nef _) h).elim, fun _ => ?_⟩
 cbv
 subst hQ hl1 hl2 hl3 hl4
 refine Zaf hm (hX _ _ _) rfl rfl rfl ⟨_, Tryz.func7, rfl, rfl⟩ rfl fun d12 w12 hr => ?_
 have S12 := S11.step hr
 clear hr S11
 refine ⟨_, HT w12 S12.bel, ?_⟩
 rintro e_ v_ ⟨A_c, n_c, k_c, B_c, m_c, j_c, rfl, hM, hb⟩
 replace S12 := S12.made hb hM
 clear hM
 obtain ⟨rfl, -, -, rfl, -, -⟩ := S12.reads (.head _)
 refine ⟨.agg [.int x.wh, .int x.sz, .slc A_c x.m.length k_c, .slc B_c x.l.length j_c, .int x.ck], 900, _, rfl, hb, rfl, ?_⟩
 clear hb
 generalize hQ : Owes _ _ _ _ _ _ = Q
 generalize hl1 : x.m.length = l1
 generalize hl2 : x.l.length = l2
 generalize hl3 : y.m.length = l3
 generalize hl4 : y.l.length = l4
 cbv
 subst hQ hl1 hl2 hl3 hl4
 refine Zaf hm (hX _ _ _) rfl rfl rfl ⟨_, Tryz.func8, rfl, rfl⟩ rfl fun d13 w13 hr => ?_
 have S13 := S12.step hr
 clear hr S12
 obtain ⟨-, g1, g2, -, g3, g4⟩ := S13.reads (.head _)
 refine ⟨_, HI _ _ _ _ w13 g2 g1 g4 g3, ?_⟩
 clear g1 g2 g3 g4
 rintro e_ v_ ⟨hb, A_h, n_h, k_h, B_h, m_h, j_h, rfl, hM⟩
 replace S13 := S13.made hb hM
 clear hM
 obtain ⟨rfl, -, -, rfl, -, -⟩ := S13.reads (.head _)
 refine ⟨.tup [.agg [.int y.wh, .int y.sz, .slc A_h y.m.length k_h, .slc B_h y.l.length j_h, .int y.ck], .bool fl], 900, _, rfl, hb, rfl, ?_⟩
 clear hb
 generalize hQ : Owes _ _ _ _ _ _ = Q
 generalize hl1 : x.m.length = l1
 generalize hl2 : x.l.length = l2
 generalize hl3 : y.m.length = l3
 generalize hl4 : y.l.length = l4
 cbv
 subst hQ hl1 hl2 hl3 hl4
 refine Zaf hm (hX _ _ _) rfl rfl rfl ⟨_, Tryz.func9, rfl, rfl⟩ rfl fun d14 w14 hr => ?_
 have S14 := S13.step hr
 clear hr S13
 obtain ⟨-, g1, g2, -, g3, g4⟩ := S14.reads (.head _)
 obtain ⟨-, g5, g6, -, g7, g8⟩ := S14.reads (.tail _ (.tail _ (.tail _ (.tail _ (.tail _ (.head _))))))
 refine ⟨_, ZaM.same _ _ _ _ _ _ _ _ _ w14 g2 g4 g6 g8, ?_⟩
 clear g1 g2 g3 g4 g5 g6 g7 g8
 rintro e_ v_ ⟨rfl, hb⟩
 replace S14 := S14.call hb
 refine ⟨.bl true, 900, _, rfl, hb, rfl, ?_⟩
 clear hb
 generalize hQ : Owes _ _ _ _ _ _ = Q
 generalize hl1 : x.m.length = l1
 generalize hl2 : x.l.length = l2
 generalize hl3 : y.m.length = l3
 generalize hl4 : y.l.length = l4
 cbv
 refine ⟨fun h => (no (neb fl) h).elim, fun _ => ?_⟩
 cbv
 subst hQ hl1 hl2 hl3 hl4
 refine Zaf hm (hX _ _ _) rfl rfl rfl ⟨_, Tryz.func11, rfl, rfl⟩ rfl fun d15 w15 hr => ?_
 have S15 := S14.step hr
 clear hr S14
 obtain ⟨q1, q2, q3, q4, q5, q6⟩ := S15.reads (.tail _ (.tail _ (.tail _ (.head _))))
 refine ⟨_, Za4.walk y _ _ _ _ 1 w15 (by omega) (by unfold szC at *; omega) (by rw [q1]; exact q3) (by rw [q4]; exact q6), ?_⟩
 clear q1 q2 q3 q4 q5 q6
 rintro e_ v_ ⟨rfl, hb⟩
 replace S15 := S15.call hb
 refine ⟨.int (mkK y 1).2, 900, _, rfl, hb, rfl, ?_⟩
 clear hb
 rw [hk10]
 generalize hQ : Owes _ _ _ _ _ _ = Q
 generalize hl1 : x.m.length = l1
 generalize hl2 : x.l.length = l2
 generalize hl3 : y.m.length = l3
 generalize hl4 : y.l.length = l4
 cbv
 refine ⟨fun h => (no (ltf _ _ n10) h).elim, fun _ => ?_⟩
 cbv
 refine ⟨fun h => (no (nef _) h).elim, fun _ => ?_⟩
 cbv
 subst hQ hl1 hl2 hl3 hl4
 exact Zav (hX _ _ _) rfl fun d w_ hr => ⟨rfl, (S15.step hr).bel⟩
theorem Za0.go (a b e : Int) (A2 : Option Addr) (n2 c2 : Nat) (A3 : Option Addr) (n3 c3 : Nat) (Ap : Option Addr) (cp : Nat) (ps : List Int) (hps : ps.length ≤ 1048576) (w : World) (r : Int) (x y : Cw)
 (HZ : ∀ w', Below w.heap.size w w' → Calls Tryz.prog 5 #[crV a b A2 n2 c2 A3 n3 c3 e, .int .i64 1048576] w' fun e w2 => e = .returned (.int .i64 r) ∧ Below w'.heap.size w' w2) (hr0 : 0 ≤ r)
 (HT : ∀ w', Below w.heap.size w w' → Calls Tryz.prog 7 #[crV a b A2 n2 c2 A3 n3 c3 e] w' fun e w2 => ∃ A n k B m j, e = .returned (cwV x (.slice A n k) (.slice B m j)) ∧ Made w' w2 x (.slice A n k) (.slice B m j) ∧ Below w'.heap.size w' w2)
 (HP : ∀ w', Below w.heap.size w w' → Calls Tryz.prog 13 #[.slice Ap ps.length cp] w' fun e w2 => ∃ A n k, e = .returned (.slice A n k) ∧ (Kd.int .i64).R 3 w2 w'.heap.size (fun _ => True) (.slice A n k) ps ∧ Below w'.heap.size w' w2)
 (HS : ∀ B2 k2 B3 k3 Bp kp w', (Kd.int .i64).C w' B2 x.m.length x.m → x.m.length ≤ k2 → k52.C w' B3 x.l.length x.l → x.l.length ≤ k3 → (Kd.int .i64).C w' Bp ps.length ps → ps.length ≤ kp → Calls Tryz.prog 12 #[crV x.wh x.sz B2 x.m.length k2 B3 x.l.length k3 x.ck, .slice Bp ps.length kp] w' fun e w2 => Below w'.heap.size w' w2 ∧ ∃ A n k B m j, e = .returned (cwV y (.slice A n k) (.slice B m j)) ∧ Made w' w2 y (.slice A n k) (.slice B m j))
 (HI : ∀ B2 k2 B3 k3 Bp kp w', (Kd.int .i64).C w' B2 x.m.length x.m → x.m.length ≤ k2 → k52.C w' B3 x.l.length x.l → x.l.length ≤ k3 → (Kd.int .i64).C w' Bp ps.length ps → ps.length ≤ kp → Calls Tryz.prog 14 #[crV x.wh x.sz B2 x.m.length k2 B3 x.l.length k3 x.ck, .slice Bp ps.length kp] w' fun e w2 => Below w'.heap.size w' w2 ∧ ∃ A n k B m j, e = .returned (cwV y (.slice A n k) (.slice B m j)) ∧ Made w' w2 y (.slice A n k) (.slice B m j))
 (hz1 : 1 + szC x < 9223372035000000000) (hz2 : 1 + szC y < 9223372036854775808) :
 Calls Tryz.prog 4 #[crV a b A2 n2 c2 A3 n3 c3 e, .slice Ap ps.length cp] w fun e w' => e = .returned (.bool true) ∧ Below w.heap.size w w' := by
 obtain ⟨O, hO⟩ : ∃ O, O = std := ⟨_, rfl⟩
 have hX : ∀ d n w, CxOk Tryz.prog (mkXR O [] [] []) d n w := fun d n w => Zaw hO ZW Zap fun r => Zax rfl
 have ltf : ∀ x y : Int, y ≤ x → O.lt x y = false := fun x y h => by
  rw [hO]
  exact decide_eq_false (by omega)
 have nef : ∀ x : Int, O.ne x x = false := fun x => by
  rw [hO]
  exact bne_self_eq_false x
 have neb : ∀ x : Bool, O.bne x x = false := fun x => by
  rw [hO]
  exact bne_self_eq_false x
 have no : ∀ {b : Bool}, b = false → b = true → False := fun h h' => fls h' h
 refine ZaD (X := mkXR O [] [] []) (d1 := fun _ => 0) Tryz.func4 rfl (by kernel_rfl) hm (hX _ _ _) [.agg [.int a, .int b, .slc A2 n2 c2, .slc A3 n3 c3, .int e], .slc Ap ps.length cp] 7 900 (Nat.le_of_ble_eq_true rfl) ?_
 have S0 := LS.start w (fun _ => 0)
 generalize hQ : Owes _ _ _ _ _ _ = Q
 generalize hl1 : x.m.length = l1
 generalize hl2 : x.l.length = l2
 generalize hl3 : y.m.length = l3
 generalize hl4 : y.l.length = l4
 generalize hl5 : ps.length = l5
 cbv
 refine ⟨fun h => (no (ltf 1048576 (l5 : Int) (by omega)) h).elim, fun _ => ?_⟩
 cbv
 subst hQ hl1 hl2 hl3 hl4 hl5
 refine Zaf hm (hX _ _ _) rfl rfl rfl ⟨_, Tryz.func5, rfl, rfl⟩ rfl fun d1 w1 hr => ?_
 have S1 := S0.step hr
 clear hr S0
 refine ⟨_, HZ w1 S1.bel, ?_⟩
 rintro e_ v_ ⟨rfl, hb⟩
 replace S1 := S1.call hb
 refine ⟨.int r, 900, _, rfl, hb, rfl, ?_⟩
 clear hb
 generalize hQ : Owes _ _ _ _ _ _ = Q
 generalize hl1 : x.m.length = l1
 generalize hl2 : x.l.length = l2
 generalize hl3 : y.m.length = l3
 generalize hl4 : y.l.length = l4
 generalize hl5 : ps.length = l5
 cbv
 refine ⟨fun h => (no (ltf _ _ hr0) h).elim, fun _ => ?_⟩
 cbv
 subst hQ hl1 hl2 hl3 hl4 hl5
 refine Zaf hm (hX _ _ _) rfl rfl rfl ⟨_, Tryz.func7, rfl, rfl⟩ rfl fun d2 w2 hr => ?_
 have S2 := S1.step hr
 clear hr S1
 refine ⟨_, HT w2 S2.bel, ?_⟩
 rintro e_ v_ ⟨A_a, n_a, k_a, B_a, m_a, j_a, rfl, hM, hb⟩
 replace S2 := S2.made hb hM
 clear hM
 obtain ⟨rfl, -, -, rfl, -, -⟩ := S2.reads (.head _)
 refine ⟨.agg [.int x.wh, .int x.sz, .slc A_a x.m.length k_a, .slc B_a x.l.length j_a, .int x.ck], 900, _, rfl, hb, rfl, ?_⟩
 clear hb
 generalize hQ : Owes _ _ _ _ _ _ = Q
 generalize hl1 : x.m.length = l1
 generalize hl2 : x.l.length = l2
 generalize hl3 : y.m.length = l3
 generalize hl4 : y.l.length = l4
 generalize hl5 : ps.length = l5
 cbv
 subst hQ hl1 hl2 hl3 hl4 hl5
 refine Zaf hm (hX _ _ _) rfl rfl rfl ⟨_, Tryz.func13, rfl, rfl⟩ rfl fun d3 w3 hr => ?_
 have S3 := S2.step hr
 clear hr S2
 refine ⟨_, HP w3 S3.bel, ?_⟩
 rintro e_ v_ ⟨A_p, n_p, k_p, rfl, hM, hb⟩
 replace S3 := S3.made (c := ⟨0, 0, ps, [], 0⟩) hb (v3 := .slice none 0 0) ⟨hM, Kd.S_nil _ _ _ _ _⟩
 clear hM
 obtain rfl : n_p = ps.length := (S3.reads (.head _)).1
 refine ⟨.slc A_p ps.length k_p, 900, _, rfl, hb, rfl, ?_⟩
 clear hb
 generalize hQ : Owes _ _ _ _ _ _ = Q
 generalize hl1 : x.m.length = l1
 generalize hl2 : x.l.length = l2
 generalize hl3 : y.m.length = l3
 generalize hl4 : y.l.length = l4
 generalize hl5 : ps.length = l5
 cbv
 subst hQ hl1 hl2 hl3 hl4 hl5
 refine Zaf hm (hX _ _ _) rfl rfl rfl ⟨_, Tryz.func12, rfl, rfl⟩ rfl fun d4 w4 hr => ?_
 have S4 := S3.step hr
 clear hr S3
 obtain ⟨-, g1, g2, -, g3, g4⟩ := S4.reads (.tail _ (.head _))
 obtain ⟨-, g5, g6, -, -, -⟩ := S4.reads (.head _)
 refine ⟨_, HS _ _ _ _ _ _ w4 g2 g1 g4 g3 g6 g5, ?_⟩
 clear g1 g2 g3 g4 g5 g6
 rintro e_ v_ ⟨hb, A_w, n_w, k_w, B_w, m_w, j_w, rfl, hM⟩
 replace S4 := S4.made hb hM
 clear hM
 obtain ⟨rfl, -, -, rfl, -, -⟩ := S4.reads (.head _)
 refine ⟨.agg [.int y.wh, .int y.sz, .slc A_w y.m.length k_w, .slc B_w y.l.length j_w, .int y.ck], 900, _, rfl, hb, rfl, ?_⟩
 clear hb
 generalize hQ : Owes _ _ _ _ _ _ = Q
 generalize hl1 : x.m.length = l1
 generalize hl2 : x.l.length = l2
 generalize hl3 : y.m.length = l3
 generalize hl4 : y.l.length = l4
 generalize hl5 : ps.length = l5
 cbv
 subst hQ hl1 hl2 hl3 hl4 hl5
 refine Zaf hm (hX _ _ _) rfl rfl rfl ⟨_, Tryz.func7, rfl, rfl⟩ rfl fun d5 w5 hr => ?_
 have S5 := S4.step hr
 clear hr S4
 refine ⟨_, HT w5 S5.bel, ?_⟩
 rintro e_ v_ ⟨A_x, n_x, k_x, B_x, m_x, j_x, rfl, hM, hb⟩
 replace S5 := S5.made hb hM
 clear hM
 obtain ⟨rfl, -, -, rfl, -, -⟩ := S5.reads (.head _)
 refine ⟨.agg [.int x.wh, .int x.sz, .slc A_x x.m.length k_x, .slc B_x x.l.length j_x, .int x.ck], 900, _, rfl, hb, rfl, ?_⟩
 clear hb
 generalize hQ : Owes _ _ _ _ _ _ = Q
 generalize hl1 : x.m.length = l1
 generalize hl2 : x.l.length = l2
 generalize hl3 : y.m.length = l3
 generalize hl4 : y.l.length = l4
 generalize hl5 : ps.length = l5
 cbv
 subst hQ hl1 hl2 hl3 hl4 hl5
 refine Zaf hm (hX _ _ _) rfl rfl rfl ⟨_, Tryz.func13, rfl, rfl⟩ rfl fun d6 w6 hr => ?_
 have S6 := S5.step hr
 clear hr S5
 refine ⟨_, HP w6 S6.bel, ?_⟩
 rintro e_ v_ ⟨A_q, n_q, k_q, rfl, hM, hb⟩
 replace S6 := S6.made (c := ⟨0, 0, ps, [], 0⟩) hb (v3 := .slice none 0 0) ⟨hM, Kd.S_nil _ _ _ _ _⟩
 clear hM
 obtain rfl : n_q = ps.length := (S6.reads (.head _)).1
 refine ⟨.slc A_q ps.length k_q, 900, _, rfl, hb, rfl, ?_⟩
 clear hb
 generalize hQ : Owes _ _ _ _ _ _ = Q
 generalize hl1 : x.m.length = l1
 generalize hl2 : x.l.length = l2
 generalize hl3 : y.m.length = l3
 generalize hl4 : y.l.length = l4
 generalize hl5 : ps.length = l5
 cbv
 subst hQ hl1 hl2 hl3 hl4 hl5
 refine Zaf hm (hX _ _ _) rfl rfl rfl ⟨_, Tryz.func14, rfl, rfl⟩ rfl fun d7 w7 hr => ?_
 have S7 := S6.step hr
 clear hr S6
 obtain ⟨-, g1, g2, -, g3, g4⟩ := S7.reads (.tail _ (.head _))
 obtain ⟨-, g5, g6, -, -, -⟩ := S7.reads (.head _)
 refine ⟨_, HI _ _ _ _ _ _ w7 g2 g1 g4 g3 g6 g5, ?_⟩
 clear g1 g2 g3 g4 g5 g6
 rintro e_ v_ ⟨hb, A_g, n_g, k_g, B_g, m_g, j_g, rfl, hM⟩
 replace S7 := S7.made hb hM
 clear hM
 obtain ⟨rfl, -, -, rfl, -, -⟩ := S7.reads (.head _)
 refine ⟨.agg [.int y.wh, .int y.sz, .slc A_g y.m.length k_g, .slc B_g y.l.length j_g, .int y.ck], 900, _, rfl, hb, rfl, ?_⟩
 clear hb
 generalize hQ : Owes _ _ _ _ _ _ = Q
 generalize hl1 : x.m.length = l1
 generalize hl2 : x.l.length = l2
 generalize hl3 : y.m.length = l3
 generalize hl4 : y.l.length = l4
 generalize hl5 : ps.length = l5
 cbv
 subst hQ hl1 hl2 hl3 hl4 hl5
 refine Zaf hm (hX _ _ _) rfl rfl rfl ⟨_, Tryz.func9, rfl, rfl⟩ rfl fun d8 w8 hr => ?_
 have S8 := S7.step hr
 clear hr S7
 obtain ⟨-, g1, g2, -, g3, g4⟩ := S8.reads (.head _)
 obtain ⟨-, g5, g6, -, g7, g8⟩ := S8.reads (.tail _ (.tail _ (.tail _ (.head _))))
 refine ⟨_, ZaM.same _ _ _ _ _ _ _ _ _ w8 g2 g4 g6 g8, ?_⟩
 clear g1 g2 g3 g4 g5 g6 g7 g8
 rintro e_ v_ ⟨rfl, hb⟩
 replace S8 := S8.call hb
 refine ⟨.bl true, 900, _, rfl, hb, rfl, ?_⟩
 clear hb
 generalize hQ : Owes _ _ _ _ _ _ = Q
 generalize hl1 : x.m.length = l1
 generalize hl2 : x.l.length = l2
 generalize hl3 : y.m.length = l3
 generalize hl4 : y.l.length = l4
 generalize hl5 : ps.length = l5
 cbv
 subst hQ hl1 hl2 hl3 hl4 hl5
 refine Zed (n := 900) hm (hX _ _ _) rfl rfl rfl rfl rfl rfl rfl rfl rfl ⟨_, Tryz.func7, rfl, rfl⟩ ⟨_, Tryz.func9, rfl, rfl⟩ rfl fun d9 w9 hr => ?_
 have S9 := S8.step hr
 clear hr S8
 refine ⟨_, HT w9 S9.bel, ?_⟩
 rintro e_ v_ ⟨A_b, n_b, k_b, B_b, m_b, j_b, rfl, hM, hb⟩
 replace S9 := S9.made hb hM
 clear hM
 obtain ⟨rfl, -, -, rfl, -, -⟩ := S9.reads (.head _)
 obtain ⟨-, g1, g2, -, g3, g4⟩ := S9.reads (.tail _ (.tail _ (.tail _ (.head _))))
 obtain ⟨-, g5, g6, -, g7, g8⟩ := S9.reads (.head _)
 refine ⟨.agg [.int x.wh, .int x.sz, .slc A_b x.m.length k_b, .slc B_b x.l.length j_b, .int x.ck], _, _, _, rfl, hb, rfl, rfl, ZaM.same _ _ _ _ _ _ _ _ _ v_ g2 g4 g6 g8, ?_⟩
 clear g1 g2 g3 g4 g5 g6 g7 g8 hb
 rintro e_ v2_ ⟨rfl, hb⟩
 replace S9 := S9.call hb
 refine ⟨.bl true, _, rfl, hb, rfl, ?_⟩
 clear hb
 generalize hQ : Owes _ _ _ _ _ _ = Q
 generalize hl1 : x.m.length = l1
 generalize hl2 : x.l.length = l2
 generalize hl3 : y.m.length = l3
 generalize hl4 : y.l.length = l4
 generalize hl5 : ps.length = l5
 cbv
 subst hQ hl1 hl2 hl3 hl4 hl5
 refine Zaf hm (hX _ _ _) rfl rfl rfl ⟨_, Tryz.func13, rfl, rfl⟩ rfl fun d10 w10 hr => ?_
 have S10 := S9.step hr
 clear hr S9
 refine ⟨_, HP w10 S10.bel, ?_⟩
 rintro e_ v_ ⟨A_o, n_o, k_o, rfl, hM, hb⟩
 replace S10 := S10.made (c := ⟨0, 0, ps, [], 0⟩) hb (v3 := .slice none 0 0) ⟨hM, Kd.S_nil _ _ _ _ _⟩
 clear hM
 obtain rfl : n_o = ps.length := (S10.reads (.head _)).1
 refine ⟨.slc A_o ps.length k_o, 900, _, rfl, hb, rfl, ?_⟩
 clear hb
 generalize hQ : Owes _ _ _ _ _ _ = Q
 generalize hl1 : x.m.length = l1
 generalize hl2 : x.l.length = l2
 generalize hl3 : y.m.length = l3
 generalize hl4 : y.l.length = l4
 generalize hl5 : ps.length = l5
 cbv
 subst hQ hl1 hl2 hl3 hl4 hl5
 refine Zaf hm (hX _ _ _) rfl rfl rfl ⟨_, Tryz.func15, rfl, rfl⟩ rfl fun d11 w11 hr => ?_
 have S11 := S10.step hr
 clear hr S10
 obtain ⟨-, g1, g2, -, g3, g4⟩ := S11.reads (.tail _ (.tail _ (.tail _ (.head _))))
 obtain ⟨-, g5, g6, -, g7, g8⟩ := S11.reads (.head _)
 refine ⟨_, Zbr.same _ _ _ _ ps w11 g2 g6, ?_⟩
 clear g1 g2 g3 g4 g5 g6 g7 g8
 rintro e_ v_ ⟨rfl, hb⟩
 replace S11 := S11.call hb
 refine ⟨.bl true, 900, _, rfl, hb, rfl, ?_⟩
 clear hb
 generalize hQ : Owes _ _ _ _ _ _ = Q
 generalize hl1 : x.m.length = l1
 generalize hl2 : x.l.length = l2
 generalize hl3 : y.m.length = l3
 generalize hl4 : y.l.length = l4
 generalize hl5 : ps.length = l5
 cbv
 subst hQ hl1 hl2 hl3 hl4 hl5
 refine ZaL hm rfl rfl rfl ⟨_, Tryz.func10, rfl, rfl⟩ rfl fun d12 w12 hr => ?_
 have S12 := S11.step hr
 clear hr S11
 refine ⟨_, Za3.walk _ _ _ 1 w w12 _ _ (S12.rng _ (.tail _ (.tail _ (.tail _ (.tail _ (.head _)))))).2 (S12.rng _ (.tail _ (.tail _ (.tail _ (.tail _ (.head _)))))).1 S12.bel (S12.held _ (.tail _ (.tail _ (.tail _ (.tail _ (.head _)))))), ?_⟩
 rintro e_ v_ ⟨rfl, hH, hB, hK⟩
 have far := S12.far _ (.tail _ (.tail _ (.tail _ (.tail _ (.head _)))))
 replace S12 := LS.turn (L1 := [_, _, _, _]) S12 hH hB hK
 clear hH hB
 refine ⟨.int (mkK x 1).2, 900, _, _, rfl, hK, fun i hi hs => by have := far i hi; have := hs; omega, hX _ _ _, rfl, ?_⟩
 clear hK far
 have n12 : 0 ≤ (mkK x 1).2 := Zef (by omega) (by omega)
 have u12 := Zcr (c := x) (a := 1) (by omega) (by omega)
 generalize hk12 : (mkK x 1).2 = k12 at n12 u12 ⊢
 generalize hQ : Owes _ _ _ _ _ _ = Q
 generalize hl1 : x.m.length = l1
 generalize hl2 : x.l.length = l2
 generalize hl3 : y.m.length = l3
 generalize hl4 : y.l.length = l4
 generalize hl5 : ps.length = l5
 cbv
 subst hQ hl1 hl2 hl3 hl4 hl5
 refine ZaL hm rfl rfl rfl ⟨_, Tryz.func16, rfl, rfl⟩ rfl fun d13 w13 hr => ?_
 have S13 := S12.step hr
 clear hr S12
 refine ⟨_, Za2.walk _ ps k12 w w13 _ S13.bel (S13.held _ (.tail _ (.tail _ (.tail _ (.head _))))).m, ?_⟩
 rintro e_ v_ ⟨rfl, hR, hB, hK⟩
 have far := S13.far _ (.tail _ (.tail _ (.tail _ (.head _))))
 replace S13 := LS.turn (L1 := [_, _, _]) (c := ⟨0, 0, (mkI ps k12).1, [], 0⟩) S13 ⟨hR, Kd.S_nil _ _ _ _ _⟩ hB hK
 clear hR hB
 refine ⟨.int (mkI ps k12).2, 900, _, _, rfl, hK, fun i hi hs => by have := far i hi; have := hs; omega, hX _ _ _, rfl, ?_⟩
 clear hK far
 have n13 : 0 ≤ (mkI ps k12).2 := by
  have := ZfJ x
  rw [(Zbc ps k12 (by omega) (by omega)).1]
  omega
 generalize hk13 : (mkI ps k12).2 = k13 at n13 ⊢
 generalize hQ : Owes _ _ _ _ _ _ = Q
 generalize hl1 : x.m.length = l1
 generalize hl2 : x.l.length = l2
 generalize hl3 : y.m.length = l3
 generalize hl4 : y.l.length = l4
 generalize hl5 : ps.length = l5
 cbv
 refine ⟨fun h => (no (ltf _ _ n13) h).elim, fun _ => ?_⟩
 cbv
 subst hQ hl1 hl2 hl3 hl4 hl5
 refine Zaf hm (hX _ _ _) rfl rfl rfl ⟨_, Tryz.func9, rfl, rfl⟩ rfl fun d14 w14 hr => ?_
 have S14 := S13.step hr
 clear hr S13
 obtain ⟨-, g1, g2, -, g3, g4⟩ := S14.reads (.tail _ (.tail _ (.head _)))
 obtain ⟨-, g5, g6, -, g7, g8⟩ := S14.reads (.tail _ (.tail _ (.tail _ (.tail _ (.tail _ (.head _))))))
 refine ⟨_, ZaM.same _ _ _ _ _ _ _ _ _ w14 g2 g4 g6 g8, ?_⟩
 clear g1 g2 g3 g4 g5 g6 g7 g8
 rintro e_ v_ ⟨rfl, hb⟩
 replace S14 := S14.call hb
 refine ⟨.bl true, 900, _, rfl, hb, rfl, ?_⟩
 clear hb
 generalize hQ : Owes _ _ _ _ _ _ = Q
 generalize hl1 : x.m.length = l1
 generalize hl2 : x.l.length = l2
 generalize hl3 : y.m.length = l3
 generalize hl4 : y.l.length = l4
 generalize hl5 : ps.length = l5
 cbv
 subst hQ hl1 hl2 hl3 hl4 hl5
 refine ZaL hm rfl rfl rfl ⟨_, Tryz.func10, rfl, rfl⟩ rfl fun d15 w15 hr => ?_
 have S15 := S14.step hr
 clear hr S14
 refine ⟨_, Za3.walk _ _ _ 1 w w15 _ _ (S15.rng _ (.tail _ (.tail _ (.head _)))).2 (S15.rng _ (.tail _ (.tail _ (.head _)))).1 S15.bel (S15.held _ (.tail _ (.tail _ (.head _)))), ?_⟩
 rintro e_ v_ ⟨rfl, hH, hB, hK⟩
 have far := S15.far _ (.tail _ (.tail _ (.head _)))
 replace S15 := LS.turn (L1 := [_, _]) S15 hH hB hK
 clear hH hB
 refine ⟨.int (mkK y 1).2, 900, _, _, rfl, hK, fun i hi hs => by have := far i hi; have := hs; omega, hX _ _ _, rfl, ?_⟩
 clear hK far
 have n15 : 0 ≤ (mkK y 1).2 := Zef (by omega) (by omega)
 have u15 := Zcr (c := y) (a := 1) (by omega) (by omega)
 generalize hk15 : (mkK y 1).2 = k15 at n15 u15 ⊢
 generalize hQ : Owes _ _ _ _ _ _ = Q
 generalize hl1 : x.m.length = l1
 generalize hl2 : x.l.length = l2
 generalize hl3 : y.m.length = l3
 generalize hl4 : y.l.length = l4
 generalize hl5 : ps.length = l5
 cbv
 subst hQ hl1 hl2 hl3 hl4 hl5
 refine Zaf hm (hX _ _ _) rfl rfl rfl ⟨_, Tryz.func11, rfl, rfl⟩ rfl fun d16 w16 hr => ?_
 have S16 := S15.step hr
 clear hr S15
 obtain ⟨q1, q2, q3, q4, q5, q6⟩ := S16.reads (.tail _ (.tail _ (.head _)))
 refine ⟨_, Za4.walk y _ _ _ _ 1 w16 (by omega) (by unfold szC at *; omega) (by rw [q1]; exact q3) (by rw [q4]; exact q6), ?_⟩
 clear q1 q2 q3 q4 q5 q6
 rintro e_ v_ ⟨rfl, hb⟩
 replace S16 := S16.call hb
 refine ⟨.int (mkK y 1).2, 900, _, rfl, hb, rfl, ?_⟩
 clear hb
 rw [hk15]
 generalize hQ : Owes _ _ _ _ _ _ = Q
 generalize hl1 : x.m.length = l1
 generalize hl2 : x.l.length = l2
 generalize hl3 : y.m.length = l3
 generalize hl4 : y.l.length = l4
 generalize hl5 : ps.length = l5
 cbv
 refine ⟨fun h => (no (ltf _ _ n15) h).elim, fun _ => ?_⟩
 cbv
 refine ⟨fun h => (no (nef _) h).elim, fun _ => ?_⟩
 cbv
 subst hQ hl1 hl2 hl3 hl4 hl5
 refine Zaf hm (hX _ _ _) rfl rfl rfl ⟨_, Tryz.func7, rfl, rfl⟩ rfl fun d17 w17 hr => ?_
 have S17 := S16.step hr
 clear hr S16
 refine ⟨_, HT w17 S17.bel, ?_⟩
 rintro e_ v_ ⟨A_c, n_c, k_c, B_c, m_c, j_c, rfl, hM, hb⟩
 replace S17 := S17.made hb hM
 clear hM
 obtain ⟨rfl, -, -, rfl, -, -⟩ := S17.reads (.head _)
 refine ⟨.agg [.int x.wh, .int x.sz, .slc A_c x.m.length k_c, .slc B_c x.l.length j_c, .int x.ck], 900, _, rfl, hb, rfl, ?_⟩
 clear hb
 generalize hQ : Owes _ _ _ _ _ _ = Q
 generalize hl1 : x.m.length = l1
 generalize hl2 : x.l.length = l2
 generalize hl3 : y.m.length = l3
 generalize hl4 : y.l.length = l4
 generalize hl5 : ps.length = l5
 cbv
 subst hQ hl1 hl2 hl3 hl4 hl5
 refine Zaf hm (hX _ _ _) rfl rfl rfl ⟨_, Tryz.func13, rfl, rfl⟩ rfl fun d18 w18 hr => ?_
 have S18 := S17.step hr
 clear hr S17
 refine ⟨_, HP w18 S18.bel, ?_⟩
 rintro e_ v_ ⟨A_s, n_s, k_s, rfl, hM, hb⟩
 replace S18 := S18.made (c := ⟨0, 0, ps, [], 0⟩) hb (v3 := .slice none 0 0) ⟨hM, Kd.S_nil _ _ _ _ _⟩
 clear hM
 obtain rfl : n_s = ps.length := (S18.reads (.head _)).1
 refine ⟨.slc A_s ps.length k_s, 900, _, rfl, hb, rfl, ?_⟩
 clear hb
 generalize hQ : Owes _ _ _ _ _ _ = Q
 generalize hl1 : x.m.length = l1
 generalize hl2 : x.l.length = l2
 generalize hl3 : y.m.length = l3
 generalize hl4 : y.l.length = l4
 generalize hl5 : ps.length = l5
 cbv
 subst hQ hl1 hl2 hl3 hl4 hl5
 refine Zaf hm (hX _ _ _) rfl rfl rfl ⟨_, Tryz.func14, rfl, rfl⟩ rfl fun d19 w19 hr => ?_
 have S19 := S18.step hr
 clear hr S18
 obtain ⟨-, g1, g2, -, g3, g4⟩ := S19.reads (.tail _ (.head _))
 obtain ⟨-, g5, g6, -, -, -⟩ := S19.reads (.head _)
 refine ⟨_, HI _ _ _ _ _ _ w19 g2 g1 g4 g3 g6 g5, ?_⟩
 clear g1 g2 g3 g4 g5 g6
 rintro e_ v_ ⟨hb, A_h, n_h, k_h, B_h, m_h, j_h, rfl, hM⟩
 replace S19 := S19.made hb hM
 clear hM
 obtain ⟨rfl, -, -, rfl, -, -⟩ := S19.reads (.head _)
 refine ⟨.agg [.int y.wh, .int y.sz, .slc A_h y.m.length k_h, .slc B_h y.l.length j_h, .int y.ck], 900, _, rfl, hb, rfl, ?_⟩
 clear hb
 generalize hQ : Owes _ _ _ _ _ _ = Q
 generalize hl1 : x.m.length = l1
 generalize hl2 : x.l.length = l2
 generalize hl3 : y.m.length = l3
 generalize hl4 : y.l.length = l4
 generalize hl5 : ps.length = l5
 cbv
 subst hQ hl1 hl2 hl3 hl4 hl5
 refine Zaf hm (hX _ _ _) rfl rfl rfl ⟨_, Tryz.func9, rfl, rfl⟩ rfl fun d20 w20 hr => ?_
 have S20 := S19.step hr
 clear hr S19
 obtain ⟨-, g1, g2, -, g3, g4⟩ := S20.reads (.head _)
 obtain ⟨-, g5, g6, -, g7, g8⟩ := S20.reads (.tail _ (.tail _ (.tail _ (.tail _ (.tail _ (.tail _ (.tail _ (.tail _ (.head _)))))))))
 refine ⟨_, ZaM.same _ _ _ _ _ _ _ _ _ w20 g2 g4 g6 g8, ?_⟩
 clear g1 g2 g3 g4 g5 g6 g7 g8
 rintro e_ v_ ⟨rfl, hb⟩
 replace S20 := S20.call hb
 refine ⟨.bl true, 900, _, rfl, hb, rfl, ?_⟩
 clear hb
 generalize hQ : Owes _ _ _ _ _ _ = Q
 generalize hl1 : x.m.length = l1
 generalize hl2 : x.l.length = l2
 generalize hl3 : y.m.length = l3
 generalize hl4 : y.l.length = l4
 generalize hl5 : ps.length = l5
 cbv
 subst hQ hl1 hl2 hl3 hl4 hl5
 refine Zaf hm (hX _ _ _) rfl rfl rfl ⟨_, Tryz.func11, rfl, rfl⟩ rfl fun d21 w21 hr => ?_
 have S21 := S20.step hr
 clear hr S20
 obtain ⟨q1, q2, q3, q4, q5, q6⟩ := S21.reads (.tail _ (.tail _ (.tail _ (.tail _ (.tail _ (.head _))))))
 refine ⟨_, Za4.walk y _ _ _ _ 1 w21 (by omega) (by unfold szC at *; omega) (by rw [q1]; exact q3) (by rw [q4]; exact q6), ?_⟩
 clear q1 q2 q3 q4 q5 q6
 rintro e_ v_ ⟨rfl, hb⟩
 replace S21 := S21.call hb
 refine ⟨.int (mkK y 1).2, 900, _, rfl, hb, rfl, ?_⟩
 clear hb
 rw [hk15]
 generalize hQ : Owes _ _ _ _ _ _ = Q
 generalize hl1 : x.m.length = l1
 generalize hl2 : x.l.length = l2
 generalize hl3 : y.m.length = l3
 generalize hl4 : y.l.length = l4
 generalize hl5 : ps.length = l5
 cbv
 refine ⟨fun h => (no (ltf _ _ n15) h).elim, fun _ => ?_⟩
 cbv
 refine ⟨fun h => (no (nef _) h).elim, fun _ => ?_⟩
 cbv
 subst hQ hl1 hl2 hl3 hl4 hl5
 exact Zav (hX _ _ _) rfl fun d w_ hr => ⟨rfl, (S21.step hr).bel⟩
end Go.Proofs.YtgghglocfdcegaaGreat.Xec
namespace Go.Proofs.YtgghglocfdcegaaGreat.Xec
open Go Go.RowKit Go.Proofs.YtgghglocfdcegaaGreat.PFnExactCrewRun Go.Proofs.YtgghglocfdcegaaGreatW.PrintWords Plain
set_option linter.unusedVariables false
set_option linter.unusedSimpArgs false
set_option linter.unusedSectionVars false
set_option maxRecDepth 100000
set_option maxHeartbeats 16000000
def wfT114 (x : S114) : Prop := (Lit.int .i64 x.f0).wf = true ∧ (Lit.int .i64 x.f1).wf = true ∧ (Lit.int .i64 x.f2).wf = true ∧ (Lit.int .i64 x.f3).wf = true ∧ (Lit.int .i64 x.f4).wf = true ∧ (Lit.int .i64 x.f5).wf = true ∧ (Lit.int .i64 x.f6).wf = true ∧ (Lit.int .i64 x.f7).wf = true ∧ (Lit.int .i64 x.f8).wf = true ∧ True
def wfT66 (x : S66) : Prop := (x.f0.length ≤ maxLen ∧ ∀ y ∈ x.f0, wfT114 y) ∧ (Lit.int .i64 x.f1).wf = true ∧ (x.f2.length ≤ maxLen ∧ ∀ y ∈ x.f2, (Lit.int .i64 y).wf = true) ∧ (x.f3.length ≤ maxLen ∧ ∀ y ∈ x.f3, (Lit.int .i64 y).wf = true)
def ZeK (a b : Int) (m : List Int) (l : List S66) (e : Int) : Prop := (Lit.int .i64 a).wf = true ∧ (Lit.int .i64 b).wf = true ∧ (m.length ≤ maxLen ∧ ∀ y ∈ m, (Lit.int .i64 y).wf = true) ∧ (l.length ≤ maxLen ∧ ∀ y ∈ l, wfT66 y) ∧ (Lit.int .i64 e).wf = true
theorem Plain.I64.of {n : Int} (h : (Lit.int .i64 n).wf = true) : I64 n := by
 have e1 : IntKind.i64.min = -9223372036854775808 := by decide
 have e2 : IntKind.i64.max = 9223372036854775807 := by decide
 simp only [Lit.wf, Bool.and_eq_true, decide_eq_true_eq, e1, e2] at h
 exact ⟨h.1, h.2⟩
theorem ZfH : ∀ (l : List S52), (∀ t ∈ l, s1T t ≤ 20000000) → szT l ≤ 20000000 * (l.length : Int)
 | [], _ => Int.le_refl _
 | t :: l, h => by
   have h1 := h t (by simp)
   have h2 := ZfH l fun x hx => h x (by simp [hx])
   simp only [szT, List.length_cons]
   omega
def xOf (a b : Int) (m : List Int) (l : List S66) (e : Int) : Cw := ⟨a, b, m, l.map ZcR, e⟩
section
variable (a b : Int) (m : List Int) (l : List S66) (e : Int) (hw : ZeK a b m l e) (h1 : m.length ≤ 1048576) (h2 : l.length ≤ 1048576) (h3 : ∀ t ∈ l, tlen t ≤ 1048576)
include hw h1 h2 h3
theorem ZeJ : Zfj (xOf a b m l e) := by
 obtain ⟨-, -, ⟨-, hm⟩, ⟨-, hl⟩, he⟩ := hw
 refine ⟨⟨h1, fun y hy => .of (hm y hy), fun t ht => ?_, .of he⟩, ?_, fun t ht => ?_⟩
 ·obtain ⟨u, hu, rfl⟩ := List.mem_map.1 ht
  obtain ⟨⟨-, g0⟩, g1, ⟨-, g2⟩, ⟨-, g3⟩⟩ := hl u hu
  refine ⟨fun x hx => ?_, .of g1, fun y hy => .of (g2 y hy), fun y hy => .of (g3 y hy)⟩
  obtain ⟨q, hq, rfl⟩ := List.mem_map.1 hx
  obtain ⟨q0, q1, q2, q3, q4, q5, q6, q7, q8, -⟩ := g0 q hq
  exact ⟨.of q0, .of q1, .of q2, .of q3, .of q4, .of q5, .of q6, .of q7, .of q8⟩
 ·show (l.map ZcR).length ≤ _
  rw [List.length_map]
  exact h2
 ·obtain ⟨u, hu, rfl⟩ := List.mem_map.1 ht
  have := h3 u hu
  unfold tlen at this
  show (u.f0.map conv).length ≤ _ ∧ u.f2.length ≤ _ ∧ u.f3.length ≤ _
  rw [List.length_map]
  omega
theorem ZfE : szC (xOf a b m l e) ≤ 30000000000000 := by
 have := ZfH (l.map ZcR) fun t ht => by
  obtain ⟨u, hu, rfl⟩ := List.mem_map.1 ht
  have := h3 u hu
  unfold tlen at this
  show s1T ⟨u.f0.map conv, u.f1, u.f2, u.f3⟩ ≤ _
  unfold s1T
  simp only [List.length_map]
  omega
 rw [List.length_map] at this
 show (m.length : Int) + szT (l.map ZcR) ≤ _
 omega
end
theorem ZeN (a b : Int) (m : List Int) (l : List S66) (e : Int) (h1 : m.length ≤ 1048576) (h2 : l.length ≤ 1048576) (h3 : ∀ t ∈ l, tlen t ≤ 1048576) (A2 : Option Addr) (c2 : Nat) (A3 : Option Addr) (c3 : Nat) (w : World) (g2 : (Kd.int .i64).C w A2 m.length m) (hc2 : m.length ≤ c2) (g3 : k66.C w A3 l.length l) (hc3 : l.length ≤ c3) :
 Calls Tryz.prog 7 #[crV a b A2 m.length c2 A3 l.length c3 e] w fun e_ w2 => ∃ A n k B q j, e_ = .returned (cwV (xOf a b m l e) (.slice A n k) (.slice B q j)) ∧ Made w w2 (xOf a b m l e) (.slice A n k) (.slice B q j) ∧ Below w.heap.size w w2 := by
 refine (laws_toCrew.calls 2200000 a b A2 c2 m A3 c3 l e a b m (l.map ZcR) e w g2 hc2 g3 hc3 (Zgm 2200000 a b m l e h1 h2 h3 (Nat.le_refl _))).mono ?_
 rintro e_ w2 ⟨v2, v3, rfl, q1, q2, q3⟩
 have hM : Made w w2 (xOf a b m l e) v2 v3 := ⟨q1, q2⟩
 obtain ⟨A, n, k, B, q, j, rfl, rfl⟩ := hM.slices
 exact ⟨_, _, _, _, _, _, rfl, hM, q3⟩
theorem Zd4 : szC Zb3 = 0 := rfl
theorem crewStep_law (a b : Int) (A2 : Option Addr) (c2 : Nat) (m : List Int) (A3 : Option Addr) (c3 : Nat) (l : List S66) (e p : Int) (W : World) (hw : ZeK a b m l e) (hp : (Lit.int .i64 p).wf = true) (g2 : (Kd.int .i64).C W A2 m.length m) (hc2 : m.length ≤ c2) (g3 : k66.C W A3 l.length l) (hc3 : l.length ≤ c3) :
 Calls Tryz.prog 3 #[crV a b A2 m.length c2 A3 l.length c3 e, .int .i64 p] W fun e w' => e = .returned (.bool true) ∧ Below W.heap.size W w' := by
 have hw_ := hw
 obtain ⟨_, _, ⟨hc, _⟩, ⟨hl, hlw⟩, _⟩ := hw_
 have HZ : ∀ r K, laws_szCrew.f K a b m l e 1048576 = some r → ∀ w', Below W.heap.size W w' → Calls Tryz.prog 5 #[crV a b A2 m.length c2 A3 l.length c3 e, .int .i64 1048576] w' fun e w2 => e = .returned (.int .i64 r) ∧ Below w'.heap.size w' w2 := fun r K hf w' hb => laws_szCrew.calls K a b A2 c2 m A3 c3 l e 1048576 r w' (Kd.C_below g2 hb) hc2 (Kd.C_below g3 hb) hc3 hf
 rcases ZfI a b m l e hc hl (fun t ht => ⟨(hlw t ht).1.1, (hlw t ht).2.2.1.1, (hlw t ht).2.2.2.1⟩) with ⟨N, h⟩ | ⟨h1, h2, h3, N, r, h4, h5⟩
 ·exact Zbs.small a b e A2 m.length c2 A3 l.length c3 p W (-1) (HZ _ _ (h N (Nat.le_refl _))) (by omega)
 ·have hs := ZeJ a b m l e hw h1 h2 h3
  have hz := ZfE a b m l e hw h1 h2 h3
  have hG : szC ((stp (xOf a b m l e) p).getD Zb3) ≤ 30000000000000 := by
   cases hst : stp (xOf a b m l e) p with
   | none =>
     show szC Zb3 ≤ _
     rw [Zd4]
     omega
   | some c' => exact (Zb7 (I64.of hp) ⟨hs, hz⟩ hst).n
  exact Zbs.go a b e p A2 m.length c2 A3 l.length c3 W r (xOf a b m l e) ((stp (xOf a b m l e) p).getD Zb3) (stp (xOf a b m l e) p).isSome (HZ _ _ (h5 N (Nat.le_refl _))) h4 (fun w' hb => ZeN a b m l e h1 h2 h3 A2 c2 A3 c3 w' (Kd.C_below g2 hb) hc2 (Kd.C_below g3 hb) hc3)
   (fun B2 k2 B3 k3 w' q1 q2 q3 q4 => (ZfK (xOf a b m l e) hs p (I64.of hp) B2 k2 B3 k3 w' q1 q2 q3 q4).mono fun e w2 h => h.made)
   (fun B2 k2 B3 k3 w' q1 q2 q3 q4 => (ZfL (xOf a b m l e) hs p (I64.of hp) B2 k2 B3 k3 w' q1 q2 q3 q4).mono fun e w2 h => h.made) (by omega) (by omega)
theorem Zdo {N : Int} : ∀ (ps : List Int) (c : Cw), (∀ p ∈ ps, I64 p) → Good N c → Good N (runF stp ps c)
 | [], c, _, h => h
 | p :: ps, c, hp, h => by
   unfold runF
   cases hst : stp c p with
   | none => exact h
   | some c' => exact Zdo ps c' (fun q hq => hp q (by simp [hq])) (Zb7 (hp p (by simp)) h hst)
def runC (c : Cw) (ps : List Int) : Cw := if okB c then runF stp ps c else Zb3
theorem Zd9 {w : World} {c : Cw} {ps : List Int} {e : Ending} {w' : World} (h : Below w.heap.size w w' ∧ if okB c then ∃ v2 v3, e = .returned (cwV (runF stp ps c) v2 v3) ∧ Made w w' (runF stp ps c) v2 v3 else e = .returned Zf2) : Below w.heap.size w w' ∧ ∃ A n k B m j, e = .returned (cwV (runC c ps) (.slice A n k) (.slice B m j)) ∧ Made w w' (runC c ps) (.slice A n k) (.slice B m j) := by
 obtain ⟨hb, h⟩ := h
 refine ⟨hb, ?_⟩
 unfold runC
 split at h
 ·rename_i ho
  rw [if_pos ho]
  obtain ⟨v2, v3, h1, h2⟩ := h
  obtain ⟨A, n, k, B, m, j, rfl, rfl⟩ := h2.slices
  exact ⟨A, n, k, B, m, j, h1, h2⟩
 ·rename_i ho
  rw [if_neg ho]
  exact ⟨none, 0, 0, none, 0, 0, h, Zdq _ _⟩
section
variable (c : Cw) (N : Int) (hg : Good N c) (ps : List Int) (hps : ∀ p ∈ ps, I64 p) (B2 : Option Addr) (k2 : Nat) (B3 : Option Addr) (k3 : Nat) (Bp : Option Addr) (kp : Nat) (w : World) (h2 : (Kd.int .i64).C w B2 c.m.length c.m) (hc2 : c.m.length ≤ k2) (h3 : k52.C w B3 c.l.length c.l) (hc3 : c.l.length ≤ k3) (hq : (Kd.int .i64).C w Bp ps.length ps)
include hg hps h2 hc2 h3 hc3 hq
theorem ZgL : Calls Tryz.prog 12 #[crV c.wh c.sz B2 c.m.length k2 B3 c.l.length k3 c.ck, .slice Bp ps.length kp] w fun e w' => Below w.heap.size w w' ∧ ∃ A n k B m j, e = .returned (cwV (runC c ps) (.slice A n k) (.slice B m j)) ∧ Made w w' (runC c ps) (.slice A n k) (.slice B m j) :=
 (Zdk.go c.wh c.sz c.ck B2 k2 c.m B3 k3 c.l Bp kp ps w (okB c) stp (Good N) I64 (fun i _ => ZcU Zcy hps i) hq (fun w' hb => ok_S c hg.s B2 k2 B3 k3 w' (Kd.C_below h3 hb)) (fun _ w' hb => ZfX c hg.s B2 k2 B3 k3 w' (Kd.C_below h2 hb) hc2 (Kd.C_below h3 hb) hc3) (fun c' p D2 n2 D3 n3 w' hgc hp q1 q2 q3 q4 => ZfK c' hgc.s p hp D2 n2 D3 n3 w' q1 q2 q3 q4) (fun _ => hg) (fun c p c' hc hp h => Zb7 hp hc h)).mono fun e w' h => Zd9 h
theorem ZgM : Calls Tryz.prog 14 #[crV c.wh c.sz B2 c.m.length k2 B3 c.l.length k3 c.ck, .slice Bp ps.length kp] w fun e w' => Below w.heap.size w w' ∧ ∃ A n k B m j, e = .returned (cwV (runC c ps) (.slice A n k) (.slice B m j)) ∧ Made w w' (runC c ps) (.slice A n k) (.slice B m j) :=
 (Zdv.go c.wh c.sz c.ck B2 k2 c.m B3 k3 c.l Bp kp ps w (okB c) stp (Good N) I64 (fun i _ => ZcU Zcy hps i) hq (fun w' hb => ok_I c hg.s B2 k2 B3 k3 w' (Kd.C_below h3 hb)) (fun _ w' hb => ZfY c hg.s B2 k2 B3 k3 w' (Kd.C_below h2 hb) hc2 (Kd.C_below h3 hb) hc3) (fun c' p D2 n2 D3 n3 w' hgc hp q1 q2 q3 q4 => ZfL c' hgc.s p hp D2 n2 D3 n3 w' q1 q2 q3 q4) (fun _ => hg) (fun c p c' hc hp h => Zb7 hp hc h)).mono fun e w' h => Zd9 h
end
theorem crewRun_law (a b : Int) (A2 : Option Addr) (c2 : Nat) (m : List Int) (A3 : Option Addr) (c3 : Nat) (l : List S66) (e : Int) (Ap : Option Addr) (cp : Nat) (ps : List Int) (W : World) (hw : ZeK a b m l e) (hp : ∀ p ∈ ps, (Lit.int .i64 p).wf = true) (g2 : (Kd.int .i64).C W A2 m.length m) (hc2 : m.length ≤ c2) (g3 : k66.C W A3 l.length l) (hc3 : l.length ≤ c3) (gp : (Kd.int .i64).C W Ap ps.length ps) (hcp : ps.length ≤ cp) :
 Calls Tryz.prog 4 #[crV a b A2 m.length c2 A3 l.length c3 e, .slice Ap ps.length cp] W fun e w' => e = .returned (.bool true) ∧ Below W.heap.size W w' := by
 by_cases hlen : 1048576 < ps.length
 ·exact Za0.long a b e A2 m.length c2 A3 l.length c3 Ap ps.length cp hlen W
 have hlen : ps.length ≤ 1048576 := by omega
 have hpi : ∀ p ∈ ps, I64 p := fun p h => .of (hp p h)
 have hw_ := hw
 obtain ⟨_, _, ⟨hc, _⟩, ⟨hl, hlw⟩, _⟩ := hw_
 have HZ : ∀ r K, laws_szCrew.f K a b m l e 1048576 = some r → ∀ w', Below W.heap.size W w' → Calls Tryz.prog 5 #[crV a b A2 m.length c2 A3 l.length c3 e, .int .i64 1048576] w' fun e w2 => e = .returned (.int .i64 r) ∧ Below w'.heap.size w' w2 := fun r K hf w' hb => laws_szCrew.calls K a b A2 c2 m A3 c3 l e 1048576 r w' (Kd.C_below g2 hb) hc2 (Kd.C_below g3 hb) hc3 hf
 rcases ZfI a b m l e hc hl (fun t ht => ⟨(hlw t ht).1.1, (hlw t ht).2.2.1.1, (hlw t ht).2.2.2.1⟩) with ⟨N, h⟩ | ⟨h1, h2, h3, N, r, h4, h5⟩
 ·exact Za0.small a b e A2 m.length c2 A3 l.length c3 Ap ps.length cp hlen W (-1) (HZ _ _ (h N (Nat.le_refl _))) (by omega)
 ·have hs := ZeJ a b m l e hw h1 h2 h3
  have hz := ZfE a b m l e hw h1 h2 h3
  have hg : Good 30000000000000 (xOf a b m l e) := ⟨hs, hz⟩
  have hG : szC (runC (xOf a b m l e) ps) ≤ 30000000000000 := by
   unfold runC
   split
   ·exact (Zdo ps _ hpi hg).n
   ·rw [Zd4]
    omega
  exact Za0.go a b e A2 m.length c2 A3 l.length c3 Ap cp ps hlen W r (xOf a b m l e) (runC (xOf a b m l e) ps) (HZ _ _ (h5 N (Nat.le_refl _))) h4 (fun w' hb => ZeN a b m l e h1 h2 h3 A2 c2 A3 c3 w' (Kd.C_below g2 hb) hc2 (Kd.C_below g3 hb) hc3)
   (fun w' hb => (laws_toIntS.calls (ps.length + 1) Ap cp ps ps w' (Kd.C_below gp hb) hcp (Zd3 _ ps hlen (Nat.lt_succ_self _))).mono fun e w2 ⟨v, q1, q2, q3⟩ => by
     obtain ⟨A, k, rfl⟩ := Kd.R_slice q2
     exact ⟨A, ps.length, k, q1, q2, q3⟩)
   (fun B2 k2 B3 k3 Bp kp w' q1 q2 q3 q4 q5 q6 => ZgL (xOf a b m l e) _ hg ps hpi B2 k2 B3 k3 Bp kp w' q1 q2 q3 q4 q5)
   (fun B2 k2 B3 k3 Bp kp w' q1 q2 q3 q4 q5 q6 => ZgM (xOf a b m l e) _ hg ps hpi B2 k2 B3 k3 Bp kp w' q1 q2 q3 q4 q5) (by omega) (by omega)
end Go.Proofs.YtgghglocfdcegaaGreat.Xec
