/- Part R of the proof of FnExactCrewStep and FnExactCrewRun (wip/xec, pack.py). No condition. -/
import Derived.Test.YtgghglocfdcegaaGreatKO
import Derived.Test.YtgghglocfdcegaaGreatKH
namespace Go.Proofs.YtgghglocfdcegaaGreat.Xec
open Go Go.RowKit Go.Proofs.YtgghglocfdcegaaGreat.PFnExactCrewRun Go.Proofs.YtgghglocfdcegaaGreatW.PrintWords
set_option linter.unusedVariables false
set_option linter.unusedSimpArgs false
set_option maxRecDepth 100000
set_option maxHeartbeats 16000000
theorem Ze0 {b : Int} (h0 : 0 ≤ b) (h1 : b + 1 < 9223372036854775808) : nx b = b + 1 := by
 unfold nx wrap64
 omega
theorem Zc0 : ∀ (l : List Int) (a : Int), (mkI l a).1.length = l.length
 | [], _ => rfl
 | _ :: l, a => congrArg (· + 1) (Zc0 l (nx a))
theorem Zc2 : ∀ (l : List S54) (a : Int), (mkC l a).1.length = l.length
 | [], _ => rfl
 | _ :: l, a => congrArg (· + 1) (Zc2 l (nx10 a))
theorem Ze5 : ∀ (l : List S52) (a : Int), (mkT l a).1.length = l.length
 | [], _ => rfl
 | _ :: l, a => congrArg (· + 1) (Ze5 l _)
theorem Zbc : ∀ (l : List Int) (a : Int), 0 ≤ a → a + l.length < 9223372036854775808 → (mkI l a).2 = a + l.length ∧ ∀ i : Nat, i < l.length → rd (mkI l a).1 i = a + i
 | [], a, _, _ => ⟨by simp [mkI], fun i hi => by cases hi⟩
 | x :: l, a, h0, h1 => by
   simp only [List.length_cons] at h1 ⊢
   have e := Ze0 h0 (by omega)
   obtain ⟨g1, g2⟩ := Zbc l (nx a) (by omega) (by omega)
   refine ⟨by simp only [mkI]; rw [g1]; omega, fun i hi => ?_⟩
   cases i with
   | zero => show (a :: (mkI l (nx a)).1).getD (0 : Nat) 0 = _; simp
   | succ i => show (mkI l (nx a)).1.getD i 0 = _; have := g2 i (by omega); unfold rd at this; simp only [Int.toNat_natCast] at this; rw [this]; omega
theorem Ze1 {b : Int} (h0 : 0 ≤ b) (h1 : b + 10 < 9223372036854775808) : nx10 b = b + 10 := by
 unfold nx10 nx wrap64
 omega
theorem Zc1 : ∀ (l : List S54) (a : Int), 0 ≤ a → a + 10 * l.length < 9223372036854775808 → (mkC l a).2 = a + 10 * l.length ∧ ∀ i : Nat, i < l.length → rd_T54 (mkC l a).1 i = mk1 (a + 10 * i)
 | [], a, _, _ => ⟨by simp [mkC], fun i hi => by cases hi⟩
 | x :: l, a, h0, h1 => by
   simp only [List.length_cons] at h1 ⊢
   have e := Ze1 h0 (by omega)
   obtain ⟨g1, g2⟩ := Zc1 l (nx10 a) (by omega) (by omega)
   refine ⟨by simp only [mkC]; rw [g1]; omega, fun i hi => ?_⟩
   cases i with
   | zero => show mk1 a = _; simp
   | succ i => have := g2 i (by omega); refine Eq.trans (show _ = rd_T54 (mkC l (nx10 a)).1 (i : Int) from ?_) (this.trans (congrArg mk1 (by omega))); unfold rd_T54; simp only [Int.toNat_natCast]; rfl
def s1T (t : S52) : Int := 10 * t.f0.length + 1 + t.f2.length + t.f3.length
def szT : List S52 → Int
 | [] => 0
 | t :: l => s1T t + szT l
theorem ZcH : ∀ l, 0 ≤ szT l
 | [] => Int.le_refl _
 | t :: l => by have := ZcH l; unfold szT s1T; omega
def mkT1 (t : S52) (b : Int) : S52 := ⟨(mkC t.f0 b).1, b + 10 * t.f0.length, (mkI t.f2 (b + 10 * t.f0.length + 1)).1, (mkI t.f3 (b + 10 * t.f0.length + 1 + t.f2.length)).1⟩
theorem ZcZ : ∀ (l : List S52) (a : Int), 0 ≤ a → a + szT l < 9223372036854775808 → (mkT l a).2 = a + szT l ∧ ∀ i : Nat, i < l.length → rd_T52 (mkT l a).1 i = mkT1 (rd_T52 l i) (a + szT (l.take i)) ∧ szT (l.take (i + 1)) = szT (l.take i) + s1T (rd_T52 l i) ∧ szT (l.take (i + 1)) ≤ szT l
 | [], a, _, _ => ⟨by simp [mkT, szT], fun i hi => by cases hi⟩
 | t :: l, a, h0, h1 => by
   have hnn := ZcH l
   simp only [szT, s1T] at h1
   have e1 := (Zc1 t.f0 a h0 (by omega)).1
   have e2 : nx (mkC t.f0 a).2 = a + 10 * t.f0.length + 1 := by rw [e1, Ze0 (by omega) (by omega)]
   have e3 := (Zbc t.f2 (a + 10 * t.f0.length + 1) (by omega) (by omega)).1
   have e4 := (Zbc t.f3 (a + 10 * t.f0.length + 1 + t.f2.length) (by omega) (by omega)).1
   have em : mkT (t :: l) a = (mkT1 t a :: (mkT l (a + s1T t)).1, (mkT l (a + s1T t)).2) := by
    simp only [mkT, mkT1, e1, Ze0 (b := a + 10 * t.f0.length) (by omega) (by omega), e3, e4]
    rw [show a + 10 * (t.f0.length : Int) + 1 + t.f2.length + t.f3.length = a + s1T t by unfold s1T; omega]
   obtain ⟨g1, g2⟩ := ZcZ l (a + s1T t) (by unfold s1T; omega) (by unfold s1T; omega)
   rw [em]
   refine ⟨by rw [g1]; simp only [szT]; omega, fun i hi => ?_⟩
   cases i with
   | zero => exact ⟨by show mkT1 t a = mkT1 t (a + szT []); simp [szT], by simp only [List.take_succ_cons, List.take_zero, szT]; show s1T t + 0 = 0 + s1T t; omega, by simp only [List.take_succ_cons, List.take_zero, szT]; omega⟩
   | succ i =>
     obtain ⟨q1, q2, q3⟩ := g2 i (by simp only [List.length_cons] at hi; omega)
     have r1 : ∀ (x : S52) (m : List S52), rd_T52 (x :: m) ((i + 1 : Nat) : Int) = rd_T52 m (i : Int) := fun x m => by unfold rd_T52; simp only [Int.toNat_natCast]; rfl
     refine ⟨by rw [r1, r1, q1]; simp only [List.take_succ_cons, szT]; rw [show a + s1T t + szT (l.take i) = a + (s1T t + szT (l.take i)) by omega], ?_, ?_⟩
     ·rw [r1]; simp only [List.take_succ_cons, szT] at q2 ⊢; omega
     ·simp only [List.take_succ_cons, szT] at q3 ⊢; omega
theorem Zbq.walk (A0 : Option Addr) (c0 : Nat) (l0 : List Int) (a : Int) (w : World) (ha : 0 ≤ a) (hz : a + 1 * l0.length < 9223372036854775808) (h0 : (Kd.int .i64).C w A0 l0.length (mkI l0 a).1) :
 Calls Tryz.prog 57 #[.slice A0 l0.length c0, .int .i64 a] w fun e w' => e = .returned (.int .i64 (mkI l0 a).2) ∧ Below w.heap.size w w' := by
 obtain ⟨hr, hm2⟩ := Zbc l0 a ha (by omega)
 have hll := Zc0 l0 a
 generalize (mkI l0 a).2 = res at *
 generalize (mkI l0 a).1 = l at *
 rw [← hll] at h0 hr hm2 hz ⊢
 have hlen := h0.2.1
 obtain ⟨j, hj⟩ : ∃ j : Nat → Int, ∀ k, j k = ((l.length + 1 - k : Nat) : Int) := ⟨_, fun _ => rfl⟩
 obtain ⟨v, hv⟩ : ∃ v : Nat → Int, ∀ k, v k = a + 1 * j k := ⟨_, fun _ => rfl⟩
 obtain ⟨N, hN⟩ : ∃ N, N = l.length + 1 := ⟨_, rfl⟩
 refine Zbd (X := mkXR std [] [] [rowI A0 c0 l]) (d1 := fun _ => 0) Tryz.func57 rfl (by kernel_rfl) hm (Zaw rfl ZW Zap (ZaG (ZaI rfl h0))) [.sl 0, .int a] 5 900 (Nat.le_of_ble_eq_true rfl) (.int .i64 res) N (by omega)
  (fun k => [(0, .v (.sl 0)), (1, .v (.int (v k))), (5, .v (.int (j k)))]) (fun k => []) (fun k => rfl) (fun _ => True) (fun k => ?_)
 generalize hO : std = O
 unfold rowI
 generalize rd l = rd0 at *
 generalize l.length = n0 at *
 have z2 : 0 = j N := by rw [hj, hN, Nat.sub_self]; rfl
 have z3 : a = v N := by rw [hv, ← z2]; omega
 have s1 : k < N → j (k + 1) < (n0 : Int) → 0 < k ∧ 0 ≤ j (k + 1) ∧ wrap64 (j (k + 1) + 1) = j k := by
  intro h1 h2
  rw [hj] at h2
  refine ⟨by omega, by rw [hj]; omega, ?_⟩
  rw [hj, hj]
  unfold wrap64
  omega
 have s2 : k < N → j (k + 1) < (n0 : Int) → rd0 (j (k + 1)) = id (v (k + 1)) ∧ nx (v (k + 1)) = v k := by
  intro h1 h2
  rw [hj] at h2
  refine ⟨by rw [hv, hj]; exact (hm2 _ (by omega)).trans (by show _ = _ + _; omega), ?_⟩
  rw [hv, hv, hj, hj, Ze0 (by omega) (by omega)]
  omega
 have s3 : k < N → ¬ j (k + 1) < (n0 : Int) → v (k + 1) = res := by
  intro h1 h2
  rw [hj] at h2
  rw [hv, hj, hr]
  omega
 clear hj h0 hv hm2 hr
 (try cbv)
 repeat' (apply And.intro <;> (try intros) <;> (try cbv))
 all_goals (subst hO; (try dsimp only [std] at *); (try simp only [decide_eq_true_eq, decide_eq_false_iff_not, beq_iff_eq, beq_eq_false_iff_ne, bne_iff_ne, bne_eq_false_iff_eq, ne_eq, Int.ofNat_eq_natCast] at *))
 all_goals first
  | rfl
  | trivial
  | exact congrArg (fun x => Slot.v (.int x)) z2
  | exact congrArg (fun x => Slot.v (.int x)) z3
  | exact congrArg (fun x => AV.int x) (s3 (by assumption) (by assumption))
  | exact congrArg (fun x => Value.int .i64 x) (s3 (by assumption) (by assumption))
  | exact z2
  | contradiction
  | exact (s1 (by assumption) (by assumption)).1
  | exact congrArg (fun x => Slot.v (.int x)) (s1 (by assumption) (by assumption)).2.2
  | exact congrArg (fun x => Slot.v (.int x)) (s2 (by assumption) (by assumption)).2
  | (have q := s1 (by assumption) (by assumption); simp only [Bool.and_eq_true, decide_eq_true_eq]; constructor <;> omega)
  | (exfalso; have q := (s2 (by assumption) (by assumption)).1; simp only [q] at *; first | exact (‹¬ _ = _› rfl) | contradiction)
theorem ZcC.walk (A0 : Option Addr) (c0 : Nat) (l0 : List S54) (a : Int) (w : World) (ha : 0 ≤ a) (hz : a + 10 * l0.length < 9223372036854775808) (h0 : k54.C w A0 l0.length (mkC l0 a).1) :
 Calls Tryz.prog 58 #[.slice A0 l0.length c0, .int .i64 a] w fun e w' => e = .returned (.int .i64 (mkC l0 a).2) ∧ Below w.heap.size w w' := by
 obtain ⟨hr, hm2⟩ := Zc1 l0 a ha (by omega)
 have hll := Zc2 l0 a
 generalize (mkC l0 a).2 = res at *
 generalize (mkC l0 a).1 = l at *
 rw [← hll] at h0 hr hm2 hz ⊢
 have hlen := h0.2.1
 obtain ⟨j, hj⟩ : ∃ j : Nat → Int, ∀ k, j k = ((l.length + 1 - k : Nat) : Int) := ⟨_, fun _ => rfl⟩
 obtain ⟨v, hv⟩ : ∃ v : Nat → Int, ∀ k, v k = a + 10 * j k := ⟨_, fun _ => rfl⟩
 obtain ⟨N, hN⟩ : ∃ N, N = l.length + 1 := ⟨_, rfl⟩
 refine Zbd (X := mkXR std [] [] [rowC A0 c0 l]) (d1 := fun _ => 0) Tryz.func58 rfl (by kernel_rfl) hm (Zaw rfl ZW Zap (ZaG (ZbB rfl h0))) [.sl 0, .int a] 7 900 (Nat.le_of_ble_eq_true rfl) (.int .i64 res) N (by omega)
  (fun k => [(0, .v (.sl 0)), (1, .v (.int (v k))), (5, .v (.int (j k)))]) (fun k => []) (fun k => rfl) (fun _ => True) (fun k => ?_)
 generalize hO : std = O
 unfold rowC
 generalize rd_T54 l = rd0 at *
 generalize l.length = n0 at *
 have z2 : 0 = j N := by rw [hj, hN, Nat.sub_self]; rfl
 have z3 : a = v N := by rw [hv, ← z2]; omega
 have s1 : k < N → j (k + 1) < (n0 : Int) → 0 < k ∧ 0 ≤ j (k + 1) ∧ wrap64 (j (k + 1) + 1) = j k := by
  intro h1 h2
  rw [hj] at h2
  refine ⟨by omega, by rw [hj]; omega, ?_⟩
  rw [hj, hj]
  unfold wrap64
  omega
 have s2 : k < N → j (k + 1) < (n0 : Int) → rd0 (j (k + 1)) = mk1 (v (k + 1)) ∧ nx10 (v (k + 1)) = v k := by
  intro h1 h2
  rw [hj] at h2
  refine ⟨by rw [hv, hj]; exact hm2 _ (by omega), ?_⟩
  rw [hv, hv, hj, hj, Ze1 (by omega) (by omega)]
  omega
 have s3 : k < N → ¬ j (k + 1) < (n0 : Int) → v (k + 1) = res := by
  intro h1 h2
  rw [hj] at h2
  rw [hv, hj, hr]
  omega
 clear hj h0 hv hm2 hr
 (try cbv)
 repeat' (apply And.intro <;> (try intros) <;> (try cbv))
 all_goals (subst hO; (try dsimp only [std] at *); (try simp only [decide_eq_true_eq, decide_eq_false_iff_not, beq_iff_eq, beq_eq_false_iff_ne, bne_iff_ne, bne_eq_false_iff_eq, ne_eq, Int.ofNat_eq_natCast] at *))
 all_goals first
  | rfl
  | trivial
  | exact congrArg (fun x => Slot.v (.int x)) z2
  | exact congrArg (fun x => Slot.v (.int x)) z3
  | exact congrArg (fun x => AV.int x) (s3 (by assumption) (by assumption))
  | exact congrArg (fun x => Value.int .i64 x) (s3 (by assumption) (by assumption))
  | exact z2
  | contradiction
  | exact (s1 (by assumption) (by assumption)).1
  | exact congrArg (fun x => Slot.v (.int x)) (s1 (by assumption) (by assumption)).2.2
  | exact congrArg (fun x => Slot.v (.int x)) (s2 (by assumption) (by assumption)).2
  | (have q := s1 (by assumption) (by assumption); simp only [Bool.and_eq_true, decide_eq_true_eq]; constructor <;> omega)
  | (exfalso; have q := (s2 (by assumption) (by assumption)).1; simp only [q] at *; first | exact (‹¬ _ = _› rfl) | contradiction)
theorem Zds.walk (A0 : Option Addr) (c0 : Nat) (l : List Int) (a : Int) (w : World) (ha : 0 ≤ a) (hz : a + l.length < 9223372036854775808) (h0 : (Kd.int .i64).C w A0 l.length (mkI l a).1) :
 Calls Tryz.prog 32 #[.agg #[.slice A0 l.length c0], .int .i64 a] w fun e w' => e = .returned (.int .i64 (mkI l a).2) ∧ Below w.heap.size w w' := by
 obtain ⟨O, hO⟩ : ∃ O, O = std := ⟨_, rfl⟩
 have hX0 : CxOk Tryz.prog (mkXR O [] [] []) (fun _ => 0) 0 w := Zaw hO ZW Zap fun r => Zax rfl
 have bel : ∀ {d w'}, Upd (Bx d 0) w w' → Below w.heap.size w w' := fun hu => hu.below fun k ⟨i, hi, _⟩ => by omega
 have hng : O.lt (mkI l a).2 0 = false := by
  rw [hO]
  exact decide_eq_false (by rw [(Zbc l a ha hz).1]; omega)
 refine ZaD (X := mkXR O [] [] []) (d1 := fun _ => 0) Tryz.func32 rfl (by kernel_rfl) hm hX0 [.agg [.slc A0 l.length c0], .int a] 4 900 (Nat.le_of_ble_eq_true rfl) ?_
 generalize hQ : Owes _ _ _ _ _ _ = Q
 generalize hn : l.length = n0
 cbv
 subst hQ hn
 refine Zaf hm hX0 rfl rfl rfl ⟨_, Tryz.func57, rfl, rfl⟩ rfl fun d1 w1 hr1 => ⟨_, Zbq.walk A0 c0 l a w1 ha (by rw [Int.one_mul]; exact hz) (Kd.C_below h0 (bel hr1.upd)), ?_⟩
 rintro e1 v1 ⟨rfl, hb1⟩
 have hs1 := hr1.below hb1
 have hX1 := hX0.reroot hs1
 refine ⟨.int (mkI l a).2, 900, _, rfl, hb1, rfl, ?_⟩
 generalize hQ : Owes _ _ _ _ _ _ = Q
 generalize hn : l.length = n0
 generalize hmk : (mkI l a).2 = r2 at hng ⊢
 cbv
 refine ⟨fun h => absurd hng (by rw [show O.lt r2 0 = true from h]; simp), fun _ => ?_⟩
 cbv
 subst hQ hn hmk
 exact Zav hX1 rfl fun d9 w9 hr9 => ⟨rfl, bel (hs1.comp hr9).upd⟩
open Classical in
noncomputable def hdG (n : Nat) (p : Nat → Option Addr × Nat × Nat × Int) (r : Nat → Int → Int) : List AV → Option AV
 | [.slc A m c, .int b] => if ∃ i : Nat, i < n ∧ (A, m, c, b) = p i then some (.int (r m b)) else none
 | _ => none
theorem Ze8 {n : Nat} {p : Nat → Option Addr × Nat × Nat × Int} {r : Nat → Int → Int} {i : Nat} {A : Option Addr} {m c : Nat} {b : Int} (hi : i < n) (h : (A, m, c, b) = p i) : hdG n p r [.slc A m c, .int b] = some (.int (r m b)) := by
 unfold hdG
 exact if_pos ⟨i, hi, h⟩
theorem ZfS {R : Nat → Row} {n : Nat} {p : Nat → Option Addr × Nat × Nat × Int} {r : Nat → Int → Int} {f : FuncId} {w' : World} {L : List AV} {v : AV} (h : hdG n p r L = some v) (hc : ∀ i, i < n → ∀ A m c b, (A, m, c, b) = p i → Calls Tryz.prog f #[.slice A m c, .int .i64 b] w' fun e w2 => e = .returned (.int .i64 (r m b)) ∧ Below w'.heap.size w' w2) : Calls Tryz.prog f (AV.vs R L).toArray w' fun e w2 => e = .returned (v.v R) ∧ Below w'.heap.size w' w2 := by
 unfold hdG at h
 split at h
 ·split at h
  ·rename_i A m c b hx
   obtain ⟨i, hi, he⟩ := hx
   injection h with h
   subst h
   exact hc i hi A m c b he
  ·cases h
 ·cases h
theorem Zb5.walk (A0 : Option Addr) (c0 : Nat) (l : List S52) (a : Int) (w : World) (ha : 0 ≤ a) (hz : a + szT l < 9223372036854775808) (h0 : k52.C w A0 l.length (mkT l a).1) :
 Calls Tryz.prog 33 #[.slice A0 l.length c0, .int .i64 a] w fun e w' => e = .returned (.int .i64 (mkT l a).2) ∧ Below w.heap.size w w' := by
 obtain ⟨hres, hnum⟩ := ZcZ l a ha hz
 have hll := Ze5 l a
 obtain ⟨L, hL⟩ : ∃ L, (mkT l a).1 = L := ⟨_, rfl⟩
 generalize (mkT l a).2 = res at *
 rw [hL] at h0 hll
 have hlen : l.length < 9223372036854775808 := Nat.lt_succ_of_le h0.2.1
 rw [← hll] at h0 hlen ⊢
 obtain ⟨f, hf, hrow⟩ := Zbm c0 h0
 obtain ⟨va, hva⟩ : ∃ va : Nat → Int, ∀ i, va i = a + szT (l.take i) := ⟨_, fun _ => rfl⟩
 have hva0 : va 0 = a := by rw [hva]; simp [szT]
 have hvaN : va l.length = res := by rw [hva, List.take_length, hres]
 have hvnn : ∀ i, 0 ≤ va i := fun i => by rw [hva]; have := ZcH (l.take i); omega
 have hget : ∀ i : Nat, i < l.length → rd_T52 L i = mkT1 (rd_T52 l i) (va i) ∧ va (i + 1) = va i + s1T (rd_T52 l i) ∧ va (i + 1) < 9223372036854775808 := fun i hi => by
  obtain ⟨q1, q2, q3⟩ := hnum i hi
  rw [hL] at q1
  rw [hva, hva]
  exact ⟨q1, by omega, by omega⟩
 have e0 : ∀ i : Nat, i < l.length → (rd_T52 L i).f0.length = (rd_T52 l i).f0.length := fun i hi => by rw [(hget i hi).1]; exact Zc2 _ _
 have e2 : ∀ i : Nat, i < l.length → (rd_T52 L i).f2.length = (rd_T52 l i).f2.length := fun i hi => by rw [(hget i hi).1]; exact Zc0 _ _
 have e3 : ∀ i : Nat, i < l.length → (rd_T52 L i).f3.length = (rd_T52 l i).f3.length := fun i hi => by rw [(hget i hi).1]; exact Zc0 _ _
 obtain ⟨G, hGd⟩ : ∃ G, G = hdG l.length (fun i => ((f i).A0, (rd_T52 L i).f0.length, (f i).c0, va i)) (fun m b => b + 10 * m) := ⟨_, rfl⟩
 obtain ⟨H, hHd⟩ : ∃ H, H = hdG (l.length + l.length) (fun i => if i < l.length then ((f i).A2, (rd_T52 L i).f2.length, (f i).c2, va i + 10 * (rd_T52 L i).f0.length + 1) else ((f (i - l.length : Nat)).A3, (rd_T52 L (i - l.length : Nat)).f3.length, (f (i - l.length : Nat)).c3, va (i - l.length) + 10 * (rd_T52 L (i - l.length : Nat)).f0.length + 1 + (rd_T52 L (i - l.length : Nat)).f2.length)) (fun m b => b + m) := ⟨_, rfl⟩
 have hsum : ∀ i : Nat, i < l.length → va (i + 1) = va i + 10 * (rd_T52 L i).f0.length + 1 + (rd_T52 L i).f2.length + (rd_T52 L i).f3.length := fun i hi => by
  rw [(hget i hi).2.1, e0 i hi, e2 i hi, e3 i hi]; unfold s1T; omega
 have hall : AllW [rowT A0 c0 L f] w [(58, G), (57, H)] := ZbW ⟨_, Tryz.func58, rfl, rfl⟩ (fun LL v hv w' hb => by
  rw [hGd] at hv
  refine ZfS hv fun i hi A m c b he => ?_
  injection he with he1 he
  injection he with he2 he
  injection he with he3 he4
  subst he1 he2 he3 he4
  obtain ⟨q1, q2, q3⟩ := hget i hi
  have qn := hvnn i
  have qs := hsum i hi
  have ok := ((hf i (by omega)).below hb).h0
  rw [q1] at ok ⊢
  have el : (mkT1 (rd_T52 l i) (va i)).f0.length = (rd_T52 l i).f0.length := Zc2 _ _
  have eo := e0 i hi
  rw [el] at ok ⊢
  have r := ZcC.walk (f i).A0 (f i).c0 (rd_T52 l i).f0 (va i) w' qn (by omega) ok
  rw [(Zc1 (rd_T52 l i).f0 (va i) qn (by omega)).1] at r
  exact r) (ZbW ⟨_, Tryz.func57, rfl, rfl⟩ (fun LL v hv w' hb => by
  rw [hHd] at hv
  refine ZfS hv fun i' hi' A m c b he => ?_
  split at he
  ·rename_i hi
   injection he with he1 he
   injection he with he2 he
   injection he with he3 he4
   subst he1 he2 he3 he4
   obtain ⟨q1, q2, q3⟩ := hget i' hi
   have qn := hvnn i'
   have qs := hsum i' hi
   have ok := ((hf i' (by omega)).below hb).h2
   have eo := e0 i' hi
   have eo2 := e2 i' hi
   rw [eo, eo2]
   rw [eo2] at ok
   rw [q1] at ok
   have r := Zbq.walk (f i').A2 (f i').c2 (rd_T52 l i').f2 (va i' + 10 * (rd_T52 l i').f0.length + 1) w' (by omega) (by omega) ok
   rw [(Zbc (rd_T52 l i').f2 _ (by omega) (by omega)).1] at r
   exact r
  ·rename_i hi
   obtain ⟨i, rfl⟩ : ∃ i, i' = l.length + i := ⟨i' - l.length, by omega⟩
   have hi : i < l.length := by omega
   rw [Nat.add_sub_cancel_left] at he
   injection he with he1 he
   injection he with he2 he
   injection he with he3 he4
   subst he1 he2 he3 he4
   obtain ⟨q1, q2, q3⟩ := hget i hi
   have qn := hvnn i
   have qs := hsum i hi
   have ok := ((hf i (by omega)).below hb).h3
   have eo := e0 i hi
   have eo2 := e2 i hi
   have eo3 := e3 i hi
   rw [eo, eo2, eo3]
   rw [eo3] at ok
   rw [q1] at ok
   have r := Zbq.walk (f i).A3 (f i).c3 (rd_T52 l i).f3 (va i + 10 * (rd_T52 l i).f0.length + 1 + (rd_T52 l i).f2.length) w' (by omega) (by omega) ok
   rw [(Zbc (rd_T52 l i).f3 _ (by omega) (by omega)).1] at r
   exact r) Zdc)
 have hGe : ∀ i : Nat, i < l.length → G [.slc (f i).A0 (rd_T52 L i).f0.length (f i).c0, .int (va i)] = some (.int (va i + 10 * (rd_T52 L i).f0.length)) := fun i hi => by
  rw [hGd]; exact Ze8 hi rfl
 have hHe : ∀ i : Nat, i < l.length → H [.slc (f i).A2 (rd_T52 L i).f2.length (f i).c2, .int (va i + 10 * (rd_T52 L i).f0.length + 1)] = some (.int (va i + 10 * (rd_T52 L i).f0.length + 1 + (rd_T52 L i).f2.length)) := fun i hi => by
  rw [hHd]; exact Ze8 (i := i) (by omega) (by rw [if_pos hi])
 have hHf : ∀ i : Nat, i < l.length → H [.slc (f i).A3 (rd_T52 L i).f3.length (f i).c3, .int (va i + 10 * (rd_T52 L i).f0.length + 1 + (rd_T52 L i).f2.length)] = some (.int (va (i + 1))) := fun i hi => by
  rw [hHd, hsum i hi]; exact Ze8 (i := l.length + i) (by omega) (by rw [if_neg (by omega), Nat.add_sub_cancel_left])
 have hat : ∀ i : Nat, i < l.length → (rd_T52 L i).f1 = va i + 10 * (rd_T52 L i).f0.length := fun i hi => by
  rw [e0 i hi, (hget i hi).1]; rfl
 have hbd : ∀ i : Nat, i < l.length → va (i + 1) < 9223372036854775808 := fun i hi => (hget i hi).2.2
 obtain ⟨j, hj⟩ : ∃ j : Nat → Int, ∀ k, j k = ((L.length + 1 - k : Nat) : Int) := ⟨_, fun _ => rfl⟩
 obtain ⟨v, hv⟩ : ∃ v : Nat → Int, ∀ k, v k = va (L.length + 1 - k) := ⟨_, fun _ => rfl⟩
 obtain ⟨N, hN⟩ : ∃ N, N = L.length + 1 := ⟨_, rfl⟩
 have no : ∀ a : Addr, ¬ Bx (fun _ => 0) 0 a.block := fun a ⟨i, hi, _⟩ => by omega
 refine Zbd (X := mkXR std [(58, G), (57, H)] [] [rowT A0 c0 L f]) (d1 := fun _ => 0) Tryz.func33 rfl (by kernel_rfl) hm (ZcY rfl hall Zap (ZaG (hrow _ 0 _ rfl fun a _ => no a))) [.sl 0, .int a] 6 900 (Nat.le_of_ble_eq_true rfl) (.int .i64 res) N (by omega)
  (fun k => [(0, .v (.sl 0)), (1, .v (.int (v k))), (5, .v (.int (j k)))]) (fun k => []) (fun k => rfl) (fun _ => True) (fun k => ?_)
 obtain ⟨L0, hL0⟩ : ∃ M : Int → Nat, ∀ i, (rd_T52 L i).f0.length = M i := ⟨_, fun _ => rfl⟩
 obtain ⟨L1, hL1⟩ : ∃ M : Int → Int, ∀ i, (rd_T52 L i).f1 = M i := ⟨_, fun _ => rfl⟩
 obtain ⟨L2, hL2⟩ : ∃ M : Int → Nat, ∀ i, (rd_T52 L i).f2.length = M i := ⟨_, fun _ => rfl⟩
 obtain ⟨L3, hL3⟩ : ∃ M : Int → Nat, ∀ i, (rd_T52 L i).f3.length = M i := ⟨_, fun _ => rfl⟩
 have e6 : rowT A0 c0 L f = { a := A0, g := (A0.getD ⟨0, 0, none⟩).block, p := (A0.getD ⟨0, 0, none⟩).off, n := L.length, c := c0, sz := 4, get := fun i => [.slc (f i).A0 (L0 i) (f i).c0, .int (L1 i), .slc (f i).A2 (L2 i) (f i).c2, .slc (f i).A3 (L3 i) (f i).c3] } := by
  unfold rowT ZaA thC
  simp only [hL0, hL1, hL2, hL3]
 rw [e6]
 simp only [hL0, hL1, hL2, hL3] at hGe hHe hHf hat hsum
 rw [← hll] at hGe hHe hHf hat hvaN hbd hsum
 have s1 : k < N → j (k + 1) < (L.length : Int) → 0 < k ∧ 0 ≤ j (k + 1) ∧ wrap64 (j (k + 1) + 1) = j k := by
  intro h1 h2
  rw [hj] at h2
  refine ⟨by omega, by rw [hj]; omega, ?_⟩
  rw [hj, hj]
  unfold wrap64
  omega
 obtain ⟨vb, hvb⟩ : ∃ vb, vb = v (k + 1) + 10 * L0 (j (k + 1)) := ⟨_, rfl⟩
 obtain ⟨vd, hvd⟩ : ∃ vd, vd = vb + 1 + L2 (j (k + 1)) := ⟨_, rfl⟩
 have S2 : k < N → std.lt (j (k + 1)) (L.length : Int) = true → G [.slc (f (j (k + 1))).A0 (L0 (j (k + 1))) (f (j (k + 1))).c0, .int (v (k + 1))] = some (.int vb) ∧ H [.slc (f (j (k + 1))).A2 (L2 (j (k + 1))) (f (j (k + 1))).c2, .int (std.add vb 1)] = some (.int vd) ∧ H [.slc (f (j (k + 1))).A3 (L3 (j (k + 1))) (f (j (k + 1))).c3, .int vd] = some (.int (v k)) ∧ L1 (j (k + 1)) = vb ∧ 0 ≤ vb ∧ 0 ≤ vd ∧ 0 ≤ v k := fun hk h => by
  have h2 := of_decide_eq_true (show decide (j (k + 1) < (L.length : Int)) = true from h)
  obtain ⟨q1, q2, q3⟩ := s1 hk h2
  have hi : L.length + 1 - (k + 1) < L.length := by rw [hj] at h2; omega
  have ej := hj (k + 1)
  have r0 := hvnn (L.length + 1 - (k + 1))
  have r1 := hGe _ hi
  have r2 := hHe _ hi
  have r3 := hHf _ hi
  have r4 := hat _ hi
  have r5 := hbd _ hi
  have r6 := hsum _ hi
  rw [show L.length + 1 - (k + 1) + 1 = L.length + 1 - k by omega] at r3 r5 r6
  rw [← hv] at r0 r1 r2 r3 r4 r6
  rw [← hv] at r3 r5 r6
  rw [← ej] at r1 r2 r3 r4 r6
  rw [← hvb] at r1 r2 r3 r4 r6
  rw [← hvd] at r2 r3 r6
  refine ⟨r1, ?_, r3, r4, by omega, by omega, by omega⟩
  rw [show std.add vb 1 = vb + 1 from Ze0 (by omega) (by omega)]
  exact r2
 have s3 : k < N → ¬ j (k + 1) < (L.length : Int) → v (k + 1) = res := by
  intro h1 h2
  rw [hj] at h2
  rw [hv, show L.length + 1 - (k + 1) = L.length by omega]
  exact hvaN
 have z2 : 0 = j N := by rw [hj, hN, Nat.sub_self]; rfl
 have z3 : a = v N := by rw [hv, hN, Nat.sub_self]; exact hva0.symm
 clear hj h0 hall hrow hf hGd hHd e6 hv hvb hvd hsum hGe hHe hHf hat hnum hget e0 e2 e3 hL hll
 generalize L.length = n0 at *
 generalize hO : std = O at S2 ⊢
 have S2a := fun h h' => (S2 h h').1
 have S2b := fun h h' => (S2 h h').2.1
 have S2c := fun h h' => (S2 h h').2.2.1
 (try cbv)
 repeat' (apply And.intro <;> (try intros) <;> (try cbv) <;> (try (rw [S2a (by assumption) (by assumption)]; cbv)) <;> (try (rw [S2b (by assumption) (by assumption)]; cbv)) <;> (try (rw [S2c (by assumption) (by assumption)]; cbv)))
 all_goals (subst hO; (try dsimp only [std] at *); (try simp only [decide_eq_true_eq, decide_eq_false_iff_not, beq_iff_eq, beq_eq_false_iff_ne, bne_iff_ne, bne_eq_false_iff_eq, ne_eq, Int.ofNat_eq_natCast] at *))
 all_goals first
  | rfl
  | trivial
  | exact congrArg (fun x => Slot.v (.int x)) z2
  | exact congrArg (fun x => Slot.v (.int x)) z3
  | exact congrArg (fun x => AV.int x) (s3 (by assumption) (by assumption))
  | exact congrArg (fun x => Value.int .i64 x) (s3 (by assumption) (by assumption))
  | exact z2
  | contradiction
  | exact (s1 (by assumption) (by assumption)).1
  | exact congrArg (fun x => Slot.v (.int x)) (s1 (by assumption) (by assumption)).2.2
  | (have q := s1 (by assumption) (by assumption); simp only [Bool.and_eq_true, decide_eq_true_eq]; constructor <;> omega)
  | (exfalso; obtain ⟨-, -, -, q4, q5, q6, q7⟩ := S2 (by assumption) (by assumption); first | omega | contradiction)
structure Zby (B lo hi : Nat) (w : World) (c : Cw) (v2 v3 : Value) : Prop where
 m : (Kd.int .i64).R 3 w B (fun q => lo ≤ q ∧ q < hi) v2 c.m
 l : Kd.S k52 52 w B (fun q => some q ≠ v2.ownBlock ∧ lo ≤ q ∧ q < hi) v3 c.l
theorem Made.held {w w' : World} {c : Cw} {v2 v3 : Value} (h : Made w w' c v2 v3) {B : Nat} (hb : B ≤ w.heap.size) : Zby B w.heap.size w'.heap.size w' c v2 v3 :=
 ⟨Kd.R_lower (Kd.R_mono (Kd.R_bound h.1) fun q hq => ⟨hq.2.1, hq.2.2.1⟩) hb, Kd.S_lower (Kd.S_mono (Kd.S_bound h.2) fun q hq => ⟨hq.1, hq.2.1, hq.2.2.1⟩) hb⟩
section
variable {B lo hi : Nat} {w w' : World} {c : Cw} {v2 v3 : Value}
theorem Zby.below (h : Zby B lo hi w c v2 v3) (hb : Below w.heap.size w w') : Zby B lo hi w' c v2 v3 := ⟨Kd.R_below h.m hb, Kd.S_below h.l hb⟩
theorem Zby.kept (h : Zby B lo hi w c v2 v3) {S : Nat → Prop} (hk : Kept w w' S) (hs : ∀ q, lo ≤ q → q < hi → ¬ S q) : Zby B lo hi w' c v2 v3 := ⟨Kd.R_kept h.m hk fun q h => hs q h.1 h.2, Kd.S_kept h.l hk fun q h => hs q h.2.1 h.2.2⟩
theorem Zby.slices (h : Zby B lo hi w c v2 v3) : ∃ A n k C m j, v2 = .slice A n k ∧ v3 = .slice C m j := by
 obtain ⟨A, n, k, rfl⟩ := R_slice h.m
 obtain ⟨C, j, rfl⟩ := Kd.S_slice h.l
 exact ⟨_, _, _, _, _, _, rfl, rfl⟩
theorem Zby.reads {A2 A3 : Option Addr} {n2 k2 n3 k3 : Nat} (h : Zby B lo hi w c (.slice A2 n2 k2) (.slice A3 n3 k3)) : n2 = c.m.length ∧ n2 ≤ k2 ∧ (Kd.int .i64).C w A2 c.m.length c.m ∧ n3 = c.l.length ∧ n3 ≤ k3 ∧ k52.C w A3 c.l.length c.l :=
 ⟨(Kd.R_reads' h.m).1, (Kd.R_reads' h.m).2.1, (Kd.R_reads' h.m).2.2, (Kd.S_reads' h.l).1, (Kd.S_reads' h.l).2.1, (Kd.S_reads' h.l).2.2⟩
end
def mkK (c : Cw) (a : Int) : Cw × Int := ({ c with m := (mkI c.m a).1, l := (mkT c.l (mkI c.m a).2).1 }, (mkT c.l (mkI c.m a).2).2)
theorem Za3.walk (c : Cw) (v2 v3 : Value) (a : Int) (W0 w : World) (lo hi : Nat) (hhi : hi ≤ w.heap.size) (hlo : W0.heap.size ≤ lo) (hB : Below W0.heap.size W0 w) (h : Zby W0.heap.size lo hi w c v2 v3) :
 Calls Tryz.prog 10 #[cwV c v2 v3, .int .i64 a] w fun e w' => e = .returned (.int .i64 (mkK c a).2) ∧ Zby W0.heap.size lo hi w' (mkK c a).1 v2 v3 ∧ Below W0.heap.size W0 w' ∧ Kept w w' (fun q => lo ≤ q ∧ q < hi) := by
 obtain ⟨A2, n2, k2, A3, n3, k3, rfl, rfl⟩ := h.slices
 obtain ⟨O, hO⟩ : ∃ O, O = std := ⟨_, rfl⟩
 have hX0 : ∀ d n w, CxOk Tryz.prog (mkXR O [] [] []) d n w := fun d n w => Zaw hO ZW Zap fun r => Zax rfl
 refine ZaD (X := mkXR O [] [] []) (d1 := fun _ => 0) Tryz.func10 rfl (by kernel_rfl) hm (hX0 _ 0 w) [.agg [.int c.wh, .int c.sz, .slc A2 n2 k2, .slc A3 n3 k3, .int c.ck], .int a] 4 900 (Nat.le_of_ble_eq_true rfl) ?_
 generalize hQ : Owes _ _ _ _ _ _ = Q
 cbv
 subst hQ
 refine ZaL hm rfl rfl rfl ⟨_, Tryz.func30, rfl, rfl⟩ rfl fun d1 w1 hr1 => ?_
 have hb1 : Below w.heap.size w w1 := hr1.upd.below fun k ⟨i, hi, _⟩ => by omega
 have H1 := h.below hb1
 have e1 : w.heap.size ≤ d1 0 := hr1.new 0 (Nat.le_refl _) (Nat.zero_lt_succ _)
 have hW := hB.size
 have hin : ∀ q, some q = (Value.slice A2 n2 k2).ownBlock → lo ≤ q ∧ q < hi := fun q hq => h.m.1 q hq.symm
 have hRt := Kd.R_tight rfl H1.m
 refine ⟨_, Zdr.walk _ c.m a W0 w1 _ (below_step hB hb1) hRt, ?_⟩
 rintro e2 w2 ⟨rfl, hR2, hB2, hK2⟩
 have hS2 := Kd.S_kept H1.l hK2 fun q hq he => hq.1 he
 refine ⟨.int (mkI c.m a).2, 900, _, _, rfl, hK2, fun i hi' hs => ?_, hX0 _ _ _, rfl, ?_⟩
 ·match i, hi' with
  | 0, _ => have := hin _ hs; omega
 generalize hQ : Owes _ _ _ _ _ _ = Q
 generalize hmk : (mkI c.m a).2 = b
 cbv
 subst hQ
 refine ZaL hm rfl rfl rfl ⟨_, Tryz.func31, rfl, rfl⟩ rfl fun d3 w3 hr3 => ?_
 have e3 : d3 0 = d1 0 := hr3.old 0 (Nat.zero_lt_succ _)
 have far3 : ∀ q, Bx d1 1 q → w.heap.size ≤ q := by
  rintro q ⟨i, hi', rfl⟩
  match i, hi' with
  | 0, _ => exact e1
 have hR3 := Kd.R_step (w1 := w3) hR2 fun q hq hlt => hr3.upd.block q hlt fun hs => by have := hin q hq; have := far3 q hs; omega
 have hS3 := Kd.S_step (w1 := w3) hS2 fun q hq hlt => hr3.upd.block q hlt fun hs => by have := far3 q hs; omega
 have hB3 : Below W0.heap.size W0 w3 := Zar hB2 hr3.upd (fun q hs => by have := far3 q hs; omega) hB2.size
 refine ⟨_, Zb4.walk _ c.l b W0 w3 _ hB3 hS3, ?_⟩
 rintro e4 w4 ⟨rfl, hS4, hB4, hK4⟩
 have hR4 := Kd.R_kept hR3 hK4 fun q hq he => he.1 hq
 refine ⟨.int (mkT c.l b).2, 900, _, _, rfl, hK4, fun i hi' hs => ?_, hX0 _ _ _, rfl, ?_⟩
 ·match i, hi' with
  | 0, _ => have := hs.2.2; omega
 generalize hQ : Owes _ _ _ _ _ _ = Q
 generalize hmk2 : (mkT c.l b).2 = b2
 cbv
 subst hQ
 refine Zav (hX0 _ _ _) rfl fun d5 w5 hr5 => ?_
 have far5 : ∀ q, Bx d3 1 q → w.heap.size ≤ q := by
  rintro q ⟨i, hi', rfl⟩
  match i, hi' with
  | 0, _ => omega
 subst hmk hmk2
 refine ⟨rfl, ⟨Kd.R_mono (Kd.R_step (w1 := w5) hR4 fun q hq hlt => hr5.upd.block q hlt fun hs => by have := hin q hq; have := far5 q hs; omega) fun q hq => hin q hq, Kd.S_step (w1 := w5) hS4 fun q hq hlt => hr5.upd.block q hlt fun hs => by have := far5 q hs; omega⟩, Zar hB4 hr5.upd (fun q hs => by have := far5 q hs; omega) hB4.size, ?_⟩
 have k2 := (Kept.of_below hb1 (fun q => lo ≤ q ∧ q < hi)).then_ hK2 (fun q hq => .inl (hin q hq))
 have k3 := Zca k2 hr3.upd (fun q hs => .inr (far3 q hs))
 exact Zca (k3.then_ hK4 (fun q hq => .inl hq.2)) hr5.upd (fun q hs => .inr (far5 q hs))
theorem Za4.walk (c : Cw) (A2 : Option Addr) (k2 : Nat) (A3 : Option Addr) (k3 : Nat) (a : Int) (w : World) (ha : 0 ≤ a) (hz : a + c.m.length + szT c.l < 9223372036854775808) (h2 : (Kd.int .i64).C w A2 c.m.length (mkK c a).1.m) (h3 : k52.C w A3 c.l.length (mkK c a).1.l) :
 Calls Tryz.prog 11 #[cwV (mkK c a).1 (.slice A2 c.m.length k2) (.slice A3 c.l.length k3), .int .i64 a] w fun e w' => e = .returned (.int .i64 (mkK c a).2) ∧ Below w.heap.size w w' := by
 obtain ⟨O, hO⟩ : ∃ O, O = std := ⟨_, rfl⟩
 have hX0 : CxOk Tryz.prog (mkXR O [] [] []) (fun _ => 0) 0 w := Zaw hO ZW Zap fun r => Zax rfl
 have bel : ∀ {d w'}, Upd (Bx d 0) w w' → Below w.heap.size w w' := fun hu => hu.below fun k ⟨i, hi, _⟩ => by omega
 have hnn := ZcH c.l
 have hb : (mkI c.m a).2 = a + c.m.length := (Zbc c.m a ha (by omega)).1
 have hb2 : (mkT c.l (mkI c.m a).2).2 = a + c.m.length + szT c.l := by rw [(ZcZ c.l _ (by omega) (by omega)).1, hb]
 have hz1 : a + c.m.length < 9223372036854775808 := by omega
 have hz2 : 0 ≤ (mkI c.m a).2 := by omega
 have hz3 : (mkI c.m a).2 + szT c.l < 9223372036854775808 := by omega
 have hng : O.lt (mkI c.m a).2 0 = false := by
  rw [hO]
  exact decide_eq_false (by omega)
 have hng2 : O.lt (mkT c.l (mkI c.m a).2).2 0 = false := by
  rw [hO]
  exact decide_eq_false (by omega)
 refine ZaD (X := mkXR O [] [] []) (d1 := fun _ => 0) Tryz.func11 rfl (by kernel_rfl) hm hX0 [.agg [.int c.wh, .int c.sz, .slc A2 c.m.length k2, .slc A3 c.l.length k3, .int c.ck], .int a] 5 900 (Nat.le_of_ble_eq_true rfl) ?_
 generalize hQ : Owes _ _ _ _ _ _ = Q
 generalize hn : c.m.length = n0
 generalize hn1 : c.l.length = n1
 cbv
 subst hQ hn hn1
 refine Zaf hm hX0 rfl rfl rfl ⟨_, Tryz.func32, rfl, rfl⟩ rfl fun d1 w1 hr1 => ⟨_, Zds.walk A2 k2 c.m a w1 ha hz1 (Kd.C_below h2 (bel hr1.upd)), ?_⟩
 rintro e1 v1 ⟨rfl, hb1⟩
 have hs1 := hr1.below hb1
 have hX1 := hX0.reroot hs1
 refine ⟨.int (mkI c.m a).2, 900, _, rfl, hb1, rfl, ?_⟩
 generalize hQ : Owes _ _ _ _ _ _ = Q
 generalize hn : c.m.length = n0
 generalize hn1 : c.l.length = n1
 generalize hmk : (mkI c.m a).2 = r2 at hng ⊢
 cbv
 refine ⟨fun h => absurd hng (by rw [show O.lt r2 0 = true from h]; simp), fun _ => ?_⟩
 cbv
 subst hQ hn hn1 hmk
 refine Zaf hm hX1 rfl rfl rfl ⟨_, Tryz.func33, rfl, rfl⟩ rfl fun d2 w2 hr2 => ⟨_, Zb5.walk A3 k3 c.l (mkI c.m a).2 w2 hz2 hz3 (Kd.C_below h3 (bel (hs1.comp hr2).upd)), ?_⟩
 rintro e2 v2 ⟨rfl, hb2'⟩
 have hs2 := (hs1.comp hr2).below hb2'
 have hX2 := hX1.reroot (hr2.below hb2')
 refine ⟨.int (mkT c.l (mkI c.m a).2).2, 900, _, rfl, hb2', rfl, ?_⟩
 generalize hQ : Owes _ _ _ _ _ _ = Q
 generalize hn : c.m.length = n0
 generalize hn1 : c.l.length = n1
 generalize hmk : (mkT c.l (mkI c.m a).2).2 = r2 at hng2 ⊢
 cbv
 refine ⟨fun h => absurd hng2 (by rw [show O.lt r2 0 = true from h]; simp), fun _ => ?_⟩
 cbv
 subst hQ hn hn1 hmk
 exact Zav hX2 rfl fun d9 w9 hr9 => ⟨rfl, bel (hs2.comp hr9).upd⟩
end Go.Proofs.YtgghglocfdcegaaGreat.Xec
