/- Part M of the proof of FnExactCrewStep and FnExactCrewRun (wip/xec, pack.py). No condition. -/
import Derived.Test.YtgghglocfdcegaaGreatKD
import Derived.Test.YtgghglocfdcegaaGreatKF
import Derived.Test.YtgghglocfdcegaaGreatKI
namespace Go.Proofs.YtgghglocfdcegaaGreat.Xec
open Go Go.RowKit Go.Proofs.YtgghglocfdcegaaGreat.PFnExactCrewRun Go.Proofs.YtgghglocfdcegaaGreatW.PrintWords
set_option linter.unusedVariables false
set_option linter.unusedSimpArgs false
set_option maxRecDepth 100000
set_option maxHeartbeats 16000000
def BegI (wh : Int) (c : S54) : S54 := let r := Zad.F wh c.f0 c.f1 c.f2 c.f3 c.f4 c.f5 c.f6 c.f7 c.f8 c.f9; ⟨r.1, r.2.1, r.2.2.1, r.2.2.2.1, r.2.2.2.2.1, r.2.2.2.2.2.1, r.2.2.2.2.2.2.1, r.2.2.2.2.2.2.2.1, r.2.2.2.2.2.2.2.2.1, r.2.2.2.2.2.2.2.2.2⟩
def ThrI.okp (wh t a : Int) (c : S54) (i b e : Int) : Prop := c.f9 = decide (i < a) ∧ (a < i → eqCl c (BegI wh c) = true) ∧ (c.f9 = true → impl_within.F b 0 (wrap64 (t - 1)) = true) ∧ (¬ c.f3 = 0 → impl_within.F b 0 (wrap64 (t - 1)) = true) ∧ (c.f9 = false → c.f3 = 0 → impl_within.F b (-1) (wrap64 (t - 1)) = true) ∧ (c.f9 = true → impl_within.F e 0 (wrap64 (t - 1)) = true) ∧ (c.f9 = false → impl_within.F e (-1) (-1) = true)
instance (wh t a : Int) (c : S54) (i b e : Int) : Decidable (ThrI.okp wh t a c i b e) := by unfold ThrI.okp; infer_instance
theorem nt {b : Bool} (h : b = true) (h' : (!b) = true) : False := by
 subst h
 cases h'
theorem nf {b : Bool} (h : (!b) = false) : b = true := by
 cases b
 ·cases h
 ·rfl
theorem tf {b : Bool} (h : b = true) (h' : b = false) : False := by
 subst h
 cases h'
def ThrI.F (wh t : Int) (l : List S54) (a : Int) (b e : List Int) : Bool := decide (l.length ≤ 12 ∧ b.length = l.length ∧ e.length = l.length ∧ impl_within.F a 0 l.length = true ∧ ∀ i, i < l.length → ThrI.okp wh t a (rd_T54 l i) i (rd b i) (rd e i))
theorem Zc7.walk (wh : Int) (u1 u2 u3 : AV) (t : Int) (A0 : Option Addr) (c0 : Nat) (l0 : List S54) (a1 : Int) (A2 : Option Addr) (c2 : Nat) (l2 : List Int) (A3 : Option Addr) (c3 : Nat) (l3 : List Int) (w : World) (hC : k54.C w A0 l0.length l0) (hB : (Kd.int .i64).C w A2 l2.length l2) (hE : (Kd.int .i64).C w A3 l3.length l3) :
 Calls Tryz.prog 49 (AV.vs (ZZ [rowC A0 c0 l0, rowI A2 c2 l2, rowI A3 c3 l3]) [.agg [.int wh, u1, u2, u3, .int t], .agg [.sl 0, .int a1, .sl 1, .sl 2]]).toArray w fun e w' => e = .returned (.bool (ThrI.F wh t l0 a1 l2 l3)) ∧ Below w.heap.size w w' := by
 have hlen := hC.2.1
 obtain ⟨j, hj⟩ : ∃ j : Nat → Int, ∀ k, j k = ((l0.length + 1 - k : Nat) : Int) := ⟨_, fun _ => rfl⟩
 obtain ⟨I, hI⟩ : ∃ I : Nat → Prop, ∀ k, I k ↔ ∀ m : Nat, m < l0.length + 1 - k → ThrI.okp wh t a1 (rd_T54 l0 m) m (rd l2 m) (rd l3 m) := ⟨_, fun _ => Iff.rfl⟩
 obtain ⟨N, hN⟩ : ∃ N, N = l0.length + 1 := ⟨_, rfl⟩
 obtain ⟨ec, hec⟩ : ∃ ec, ec = eqCl := ⟨_, rfl⟩
 refine Zbd (X := mkXE std [(83, Zad.g), (82, impl_within.g)] [] [rowC A0 c0 l0, rowI A2 c2 l2, rowI A3 c3 l3] ec) (d1 := fun _ => 0) Tryz.func49 rfl (by kernel_rfl) hm (Ze4 rfl (all_cons Zad.fn (all_cons impl_within.fn ZW)) Zap (ZcK (ZbB rfl hC) (ZaI rfl hB) (ZaI rfl hE)) hec) _ 7 900 (Nat.le_of_ble_eq_true rfl) _ N (by omega)
  (fun k => [(2, .ptr 0 0), (3, .ptr 1 0), (37, .v (.sl 0)), (38, .v (.int (l0.length : Nat))), (39, .v (.int (j k)))])
  (fun k => [[.int wh, u1, u2, u3, .int t], [.sl 0, .int a1, .sl 1, .sl 2]]) (fun k => rfl) I (fun k => ?_)
 have hV : ThrI.F wh t l0 a1 l2 l3 = true ↔ (l0.length ≤ 12 ∧ l2.length = l0.length ∧ l3.length = l0.length ∧ impl_within.F a1 0 l0.length = true ∧ ∀ i, i < l0.length → ThrI.okp wh t a1 (rd_T54 l0 i) i (rd l2 i) (rd l3 i)) := decide_eq_true_iff
 generalize ThrI.F wh t l0 a1 l2 l3 = V at *
 generalize hv : Value.bool V = v
 generalize hO : std = O
 unfold rowC rowI
 generalize rd_T54 l0 = rd0 at *
 generalize rd l2 = rb at *
 generalize rd l3 = re at *
 generalize l0.length = n0 at *
 generalize l2.length = n2 at *
 generalize l3.length = n3 at *
 have z2 : 0 = j N := by rw [hj, hN, Nat.sub_self]; rfl
 have zI : I N := (hI N).2 fun m hm => by omega
 have s1 : k < N → j (k + 1) < (n0 : Int) → 0 < k ∧ 0 ≤ j (k + 1) ∧ wrap64 (j (k + 1) + 1) = j k := by
  intro h1 h2
  rw [hj] at h2
  refine ⟨by omega, by rw [hj]; omega, ?_⟩
  rw [hj, hj]
  unfold wrap64
  omega
 have s2 : k < N → j (k + 1) < (n0 : Int) → V = true → ThrI.okp wh t a1 (rd0 (j (k + 1))) (j (k + 1)) (rb (j (k + 1))) (re (j (k + 1))) := by
  intro h1 h2 h3
  rw [hj] at h2 ⊢
  exact (hV.1 h3).2.2.2.2 _ (by omega)
 have s3 : k < N → j (k + 1) < (n0 : Int) → I (k + 1) → ThrI.okp wh t a1 (rd0 (j (k + 1))) (j (k + 1)) (rb (j (k + 1))) (re (j (k + 1))) → I k := by
  intro h1 h2 h3 h4
  rw [hj] at h2 h4
  refine (hI k).2 fun m hm => ?_
  by_cases he : m = n0 + 1 - (k + 1)
  ·rw [he]; exact h4
  ·exact (hI (k + 1)).1 h3 m (by omega)
 have s4 : k < N → ¬ j (k + 1) < (n0 : Int) → I (k + 1) → n0 ≤ 12 → n2 = n0 → n3 = n0 → impl_within.F a1 0 n0 = true → V = true := by
  intro h1 h2 h3 h4 h5 h6 h7
  rw [hj] at h2
  exact hV.2 ⟨h4, h5, h6, h7, fun i hi => (hI (k + 1)).1 h3 i (by omega)⟩
 have s5 : V = true → n0 ≤ 12 ∧ n2 = n0 ∧ n3 = n0 ∧ impl_within.F a1 0 n0 = true := fun h => ⟨(hV.1 h).1, (hV.1 h).2.1, (hV.1 h).2.2.1, (hV.1 h).2.2.2.1⟩
 clear hV hj hI hC hB hE
 unfold ThrI.okp BegI at s2 s3
 unfold Zad.g impl_within.g
 generalize hfB : Zad.F = fB at *
 generalize hfW : impl_within.F = fW at *
 (try cbv)
 repeat' (apply And.intro <;> (try intros) <;> (try cbv))
 all_goals (subst hv; subst hO; (try dsimp only [std] at *); (try simp only [decide_eq_true_eq, decide_eq_false_iff_not, beq_iff_eq, beq_eq_false_iff_ne, bne_iff_ne, bne_eq_false_iff_eq, ne_eq, Int.ofNat_eq_natCast] at *))
 all_goals (try first | rfl | exact z2 | exact zI)
 all_goals (try subst hec)
 all_goals first
  | exact (s1 (by assumption) (by assumption)).1
  | exact congrArg (fun x => Slot.v (.int x)) (s1 (by assumption) (by assumption)).2.2
  | (have q := s1 (by assumption) (by assumption); simp only [Bool.and_eq_true, decide_eq_true_eq]; constructor <;> omega)
  | (refine s3 (by assumption) (by assumption) (by assumption) ⟨by assumption, fun h => ?_, fun h => ?_, fun h => ?_, fun h h' => ?_, fun h => ?_, fun h => ?_⟩ <;> first | exact nf (by assumption) | exact absurd h (by assumption) | exact (tf h (by assumption)).elim | exact (tf (by assumption) h).elim | exact absurd h' (by assumption) | exact absurd (by assumption) h)
  | (refine congrArg Value.bool (s4 (by assumption) (by assumption) (by assumption) ?_ ?_ ?_ (nf (by assumption))).symm <;> omega)
  | (refine congrArg Value.bool (Bool.eq_false_iff.2 fun hh => ?_).symm
     first
      | (have q := s5 hh
         first | omega | exact nt q.2.2.2 (by assumption))
      | (have q := s2 (by assumption) (by assumption) hh
         first
          | exact absurd q.1 (by assumption)
          | exact nt (q.2.1 (by assumption)) (by assumption)
          | exact nt (q.2.2.1 (by assumption)) (by assumption)
          | exact nt (q.2.2.2.1 (by assumption)) (by assumption)
          | exact nt (q.2.2.2.2.1 (by assumption) (by assumption)) (by assumption)
          | exact nt (q.2.2.2.2.2.1 (by assumption)) (by assumption)
          | exact nt (q.2.2.2.2.2.2 (by assumption)) (by assumption)))
  | skip
theorem thrS (wh sz ck : Int) (A2 : Option Addr) (n2 c2 : Nat) (A3 : Option Addr) (n3 c3 : Nat) (s : Sl) (t : S52) (w : World) (h : SlOk s w t) : Calls Tryz.prog 40 #[crV wh sz A2 n2 c2 A3 n3 c3 ck, .agg #[.slice s.A0 t.f0.length s.c0, .int .i64 t.f1, .slice s.A2 t.f2.length s.c2, .slice s.A3 t.f3.length s.c3]] w fun e w' => e = .returned (.bool (Thr.F wh ck t.f0 t.f1 t.f2 t.f3)) ∧ Below w.heap.size w w' :=
 Zcz.walk wh (.int sz) (.slc A2 n2 c2) (.slc A3 n3 c3) ck s.A0 s.c0 t.f0 t.f1 s.A2 s.c2 t.f2 s.A3 s.c3 t.f3 w h.h0 h.h2 h.h3
theorem thrI (wh sz ck : Int) (A2 : Option Addr) (n2 c2 : Nat) (A3 : Option Addr) (n3 c3 : Nat) (s : Sl) (t : S52) (w : World) (h : SlOk s w t) : Calls Tryz.prog 49 #[crV wh sz A2 n2 c2 A3 n3 c3 ck, .agg #[.slice s.A0 t.f0.length s.c0, .int .i64 t.f1, .slice s.A2 t.f2.length s.c2, .slice s.A3 t.f3.length s.c3]] w fun e w' => e = .returned (.bool (ThrI.F wh ck t.f0 t.f1 t.f2 t.f3)) ∧ Below w.heap.size w w' :=
 Zc7.walk wh (.int sz) (.slc A2 n2 c2) (.slc A3 n3 c3) ck s.A0 s.c0 t.f0 t.f1 s.A2 s.c2 t.f2 s.A3 s.c3 t.f3 w h.h0 h.h2 h.h3
def OkS (c : Cw) : Prop := Zae.F c.wh = true ∧ Zx.F c.sz = true ∧ ¬ (c.wh = 2 ∧ c.sz < 2) ∧ (c.m.length : Int) = Z0.F c.wh c.sz ∧ c.l.length ≤ 6 ∧ 0 ≤ c.ck ∧ ∀ i : Nat, i < c.l.length → Thr.F c.wh c.ck (rd_T52 c.l i).f0 (rd_T52 c.l i).f1 (rd_T52 c.l i).f2 (rd_T52 c.l i).f3 = true
def OkI (r : List Int) (ok : Bool) (c : Cw) : Prop := ok = true ∧ r.length = c.m.length ∧ c.l.length ≤ 6 ∧ 0 ≤ c.ck ∧ ∀ i : Nat, i < c.l.length → ThrI.F c.wh c.ck (rd_T52 c.l i).f0 (rd_T52 c.l i).f1 (rd_T52 c.l i).f2 (rd_T52 c.l i).f3 = true
theorem ZdJ.walk (wh sz ck : Int) (A2 : Option Addr) (c2 : Nat) (m : List Int) (A3 : Option Addr) (c3 : Nat) (l : List S52) (w : World) (V : Bool) (hV : V = true ↔ OkS ⟨wh, sz, m, l, ck⟩) (h3 : k52.C w A3 l.length l) :
 Calls Tryz.prog 20 #[crV wh sz A2 m.length c2 A3 l.length c3 ck] w fun e w' => e = .returned (.bool V) ∧ Below w.heap.size w w' := by
 unfold OkS at hV
 simp only at hV
 obtain ⟨O, hO⟩ : ∃ O, O = std := ⟨_, rfl⟩
 have eqt : ∀ x y : Int, O.eq x y = true → x = y := fun x y h => by
  rw [hO] at h
  exact beq_iff_eq.1 h
 have net : ∀ x y : Int, O.ne x y = true → x ≠ y := fun x y h => by
  rw [hO] at h
  exact bne_iff_ne.1 h
 have nef : ∀ x y : Int, O.ne x y = false → x = y := fun x y h => by
  rw [hO] at h
  exact bne_eq_false_iff_eq.1 h
 have eqf : ∀ x y : Int, O.eq x y = false → x ≠ y := fun x y h => by
  rw [hO] at h
  exact beq_eq_false_iff_ne.1 h
 have ltt : ∀ x y : Int, O.lt x y = true → x < y := fun x y h => by
  rw [hO] at h
  exact of_decide_eq_true h
 have ltf : ∀ x y : Int, O.lt x y = false → ¬ x < y := fun x y h => by
  rw [hO] at h
  exact of_decide_eq_false h
 have nott : ∀ x : Bool, O.not x = true → x = false := fun x h => by
  rw [hO] at h
  cases x
  ·rfl
  ·cases h
 have notf : ∀ x : Bool, O.not x = false → x = true := fun x h => by
  rw [hO] at h
  cases x
  ·cases h
  ·rfl
 obtain ⟨f, hf, hrow⟩ := Zbm c3 h3
 have hlen := h3.2.1
 have hlt_ : ∀ a, A3 = some a → 0 < l.length → a.block < w.heap.size := fun a ha hpos => by
  obtain ⟨ad, cs, e, hl, hk, hc⟩ := Kd.C_get h3 z52 0 (Int.le_refl _) (by omega)
  rw [ha] at e
  injection e with e
  subst e
  have := World.block_lt_of_cell? w _ (hc 0 (cs[0]'(by rw [hl]; decide)) (List.getElem?_eq_getElem _))
  simpa [Addr.add] using this
 have rowsP : ∀ (S : Nat → Prop) (w' : World), Below w.heap.size w w' → (∀ q, S q → w.heap.size ≤ q) → ∀ i, ZaV (ZZ [rowT A3 c3 l f]) S w' i := fun S w' hb hS i => by
  match i with
  | i + 1 => exact Zax rfl
  | 0 =>
    by_cases h0 : l.length = 0
    ·intro _ q hq
     exact absurd hq (by show ¬ q < l.length; omega)
    ·have := hrow (ZZ [rowT A3 c3 l f]) 0 S rfl (fun a ha hs => by have := hS _ hs; have := hlt_ a ha (by omega); omega)
     intro hw q hq
     obtain ⟨g1, g2, g3, g4, g5⟩ := this hw q hq
     refine ⟨g1, g2, Nat.lt_of_lt_of_le g3 hb.size, g4, fun j x hj => ?_⟩
     have hc := g5 j x hj
     unfold World.cell? at hc ⊢
     rw [hb.block _ g3]
     exact hc
 have bel : ∀ {d w'}, Upd (Bx d 0) w w' → Below w.heap.size w w' := fun hu => hu.below fun k ⟨i, hi, _⟩ => by omega
 have hX0 : CxOk Tryz.prog (mkXR O [(37, Zae.g), (38, Zx.g), (39, Z0.g)] [] [rowT A3 c3 l f]) (fun _ => 0) 0 w := Zaw hO (all_cons Zae.fn (all_cons Zx.fn (all_cons Z0.fn ZW))) Zap (rowsP _ _ (Below.refl _ _) fun q ⟨i, hi, _⟩ => by omega)
 refine ZaD (X := mkXR O [(37, Zae.g), (38, Zx.g), (39, Z0.g)] [] [rowT A3 c3 l f]) (d1 := fun _ => 0) Tryz.func20 rfl (by kernel_rfl) hm hX0 [.agg [.int wh, .int sz, .slc A2 m.length c2, .sl 0, .int ck]] 6 900 (Nat.le_of_ble_eq_true rfl) ?_
 obtain ⟨L0, hL0⟩ : ∃ L : Int → Nat, ∀ i, (rd_T52 l i).f0.length = L i := ⟨_, fun _ => rfl⟩
 obtain ⟨L1, hL1⟩ : ∃ L : Int → Int, ∀ i, (rd_T52 l i).f1 = L i := ⟨_, fun _ => rfl⟩
 obtain ⟨L2, hL2⟩ : ∃ L : Int → Nat, ∀ i, (rd_T52 l i).f2.length = L i := ⟨_, fun _ => rfl⟩
 obtain ⟨L3, hL3⟩ : ∃ L : Int → Nat, ∀ i, (rd_T52 l i).f3.length = L i := ⟨_, fun _ => rfl⟩
 have e6 : rowT A3 c3 l f = { a := A3, g := (A3.getD ⟨0, 0, none⟩).block, p := (A3.getD ⟨0, 0, none⟩).off, n := l.length, c := c3, sz := 4, get := fun i => [.slc (f i).A0 (L0 i) (f i).c0, .int (L1 i), .slc (f i).A2 (L2 i) (f i).c2, .slc (f i).A3 (L3 i) (f i).c3] } := by
  unfold rowT ZaA thC
  simp only [hL0, hL1, hL2, hL3]
 generalize hQ : Owes _ _ _ _ _ _ = Q
 rw [e6]
 unfold Zae.g Zx.g Z0.g
 generalize hg1 : Zae.F = g1
 generalize hg2 : Zx.F = g2
 generalize hg3 : Z0.F = g3
 generalize hn : l.length = nP
 generalize hl2 : m.length = n2
 cbv
 repeat' (apply And.intro <;> (try intro) <;> (try cbv))
 all_goals subst hQ hn hl2 hg1 hg2 hg3
 all_goals first
  | (refine Zav hX0 rfl fun d3 w3 hr3 => ⟨congrArg (fun b => Ending.returned (.bool b)) (Bool.eq_false_iff.2 fun hh => ?_).symm, bel hr3.upd⟩
     obtain ⟨v1, v2, v3, v4, v5, v6, v7⟩ := hV.1 hh
     first
      | exact tf v1 (nott _ (by assumption))
      | exact tf v2 (nott _ (by assumption))
      | exact v3 ⟨eqt wh 2 (by assumption), ltt sz 2 (by assumption)⟩
      | exact net _ _ (by assumption) v4
      | (have := ltt _ _ (by assumption); omega)
      | exact absurd (ltt ck 0 (by assumption)) (by omega)
      | exact absurd (ltt 6 (l.length : Int) (by assumption)) (by omega))
  | (
     have hV2 : V = true ↔ ∀ i : Nat, i < l.length → Thr.F wh ck (rd_T52 l i).f0 (rd_T52 l i).f1 (rd_T52 l i).f2 (rd_T52 l i).f3 = true := ⟨fun h => (hV.1 h).2.2.2.2.2.2, fun h => hV.2 ⟨notf _ (by assumption), notf _ (by assumption), fun hc => by first | exact ltf sz 2 (by assumption) hc.2 | exact eqf wh 2 (by assumption) hc.1, nef _ _ (by assumption), by have := ltf 6 (l.length : Int) (by assumption); omega, by have := ltf ck 0 (by assumption); omega, h⟩⟩
     intro hk d5 a5 w5 hR5 hr5
     refine ZaT (l.length + 1) ?_
     refine ZaX (fun kk a w' => ∃ (i : Nat) (d : Nat → Nat), i ≤ l.length ∧ l.length - i < kk ∧ (∀ q : Nat, q < i → Thr.F wh ck (rd_T52 l q).f0 (rd_T52 l q).f1 (rd_T52 l q).f2 (rd_T52 l q).f3 = true) ∧ Below w.heap.size w w' ∧ (∀ q, q < 1 → w.heap.size ≤ d q) ∧ Rel (ZZ [rowT A3 c3 l f]) d (St.of 6 60 [(1, .ptr 0 0), (2, .v (.bl false)), (49, .v (.sl 0)), (50, .v (.int (l.length : Nat))), (51, .v (.int (i : Nat)))] [[.int wh, .int sz, .slc A2 m.length c2, .sl 0, .int ck]]) a ∧ Zak (ZZ [rowT A3 c3 l f]) d 1 w' d [[.int wh, .int sz, .slc A2 m.length c2, .sl 0, .int ck]] w') (fun a w' ⟨i, d, h1, h2, _⟩ => by omega) (fun kk a w' IH hI => ?_) _ _ _ ?_
     rotate_left
     ·exact ⟨0, d5, Nat.zero_le _, by omega, fun q hq => absurd hq (Nat.not_lt_zero _), bel hr5.upd, fun q hq => (fun q hq => hr5.new q (Nat.zero_le _) hq) q hq, hR5.weaken rfl ⟨rfl, rfl, rfl, rfl, rfl, trivial⟩ (ZaJ _ _ rfl), hr5.reroot⟩
     obtain ⟨i, d, hi, hkk, hq, hbw, hdw, hRel, hRe⟩ := hI
     have hXl : CxOk Tryz.prog (mkXR O [(37, Zae.g), (38, Zx.g), (39, Z0.g)] [] [rowT A3 c3 l f]) d 1 w' := Zaw hO (all_cons Zae.fn (all_cons Zx.fn (all_cons Z0.fn ZW))) Zap (rowsP _ _ hbw fun q ⟨i, hi, he⟩ => he ▸ hdw i hi)
     refine ZaF Zag hm hXl 900 _ _ d a w' ⟨hk.1, hk.1, hk.2⟩ hRel hRe ?_
     have belL : ∀ {d' w2}, (∀ i, i < 1 → d' i = d i) → Upd (Bx d' 1) w' w2 → Below w.heap.size w w2 := fun hd hu => Zar hbw hu (fun q ⟨i, hi, he⟩ => by rw [he, hd i hi]; exact hdw i hi) hbw.size
     generalize hQ : Owes _ _ _ _ _ _ = Q
     rw [e6]
     unfold Zae.g Zx.g Z0.g
     generalize hg1 : Zae.F = g1
     generalize hg2 : Zx.F = g2
     generalize hg3 : Z0.F = g3
     generalize hn : l.length = nP
     generalize hl2 : m.length = n2
     cbv
     refine ⟨fun h => ?_, fun h => ?_⟩
     ·have hlt : i < l.length := by
       rw [hO] at h
       have := of_decide_eq_true (show decide ((i : Int) < (nP : Int)) = true from h)
       omega
      cbv
      refine ⟨?_, ?_⟩
      ·rw [hO]
       show (decide (0 ≤ (i : Int)) && decide ((i : Int) < (nP : Int))) = true
       rw [Bool.and_eq_true, decide_eq_true_eq, decide_eq_true_eq]
       omega
      (try cbv)
      subst hQ hn hl2 hg1 hg2 hg3
      refine Zaf hm hXl rfl rfl rfl ⟨_, Tryz.func40, rfl, rfl⟩ rfl fun d6 w6 hr6 => ?_
      have hc := thrS wh sz ck A2 m.length c2 A3 l.length c3 (f i) (rd_T52 l i) w6 ((hf i hlt).below (belL (fun _ _ => rfl) hr6.upd))
      generalize htt : Thr.F wh ck (rd_T52 l i).f0 (rd_T52 l i).f1 (rd_T52 l i).f2 (rd_T52 l i).f3 = tt at hc
      rw [hL0, hL1, hL2, hL3] at hc
      refine ⟨_, hc, ?_⟩
      rintro e7 w7 ⟨rfl, hb7⟩
      have hr7 := hr6.below hb7
      have hX7 := hXl.reroot hr7
      refine ⟨.bool tt, 900, _, rfl, hb7, rfl, ?_⟩
      generalize hQ : Owes _ _ _ _ _ _ = Q
      rw [e6]
      unfold Zae.g Zx.g Z0.g
      generalize hg1 : Zae.F = g1
      generalize hg2 : Zx.F = g2
      generalize hg3 : Z0.F = g3
      generalize hn : l.length = nP
      generalize hl2 : m.length = n2
      cbv
      refine ⟨fun h => ?_, fun h => ?_⟩
      ·cbv
       subst hQ hn hl2 hg1 hg2 hg3
       refine Zav hX7 rfl fun d8 w8 hr8 => ⟨congrArg (fun b => Ending.returned (.bool b)) (Bool.eq_false_iff.2 fun hh => tf (hV2.1 hh i hlt) (htt.trans (nott _ h))).symm, belL (fun _ _ => rfl) (hr7.comp hr8).upd⟩
      ·cbv
       subst hQ hn hl2 hg1 hg2 hg3
       intro hk8 d8 a8 w8 hR8 hr8
       have o6 : ∀ i, i < 1 → d8 i = d6 i := fun i hi => hr8.old i (Nat.lt_of_lt_of_le hi hr6.len)
       refine IH a8 w8 ⟨i + 1, d8, hlt, by omega, fun q hq' => ?_, belL (fun _ _ => rfl) (hr7.comp hr8).upd, fun q hq => by rw [o6 q hq, hr7.old q hq]; exact hdw q hq, hR8.weaken rfl ⟨rfl, rfl, rfl, rfl, congrArg (fun x => Slot.v (.int x)) ?_, trivial⟩ (ZaJ _ _ rfl), (Zak.drop (b := [_]) (r := [_]) (hr7.comp hr8) (Nat.le_refl 1)).reroot (st := ⟨0, .nil, [_]⟩)⟩
       ·by_cases he : q = i
        ·rw [he]; exact htt.trans (notf _ h)
        ·exact hq q (by omega)
       ·rw [hO]
        show wrap64 ((i : Int) + 1) = ((i + 1 : Nat) : Int)
        unfold wrap64
        omega
     ·have hge : i = l.length := by
       rw [hO] at h
       have := of_decide_eq_false (show decide ((i : Int) < (nP : Int)) = false from h)
       omega
      cbv
      subst hQ hn hl2 hg1 hg2 hg3
      subst hge
      exact Zav hXl rfl fun d8 w8 hr8 => ⟨congrArg (fun b => Ending.returned (.bool b)) (hV2.2 fun i hi => hq i hi).symm, belL (fun _ _ => rfl) hr8.upd⟩)
theorem ZdR.walk (wh sz ck : Int) (A2 : Option Addr) (c2 : Nat) (m : List Int) (A3 : Option Addr) (c3 : Nat) (l : List S52) (w : World) (V : Bool) (r : List Int) (ok : Bool) (hV : V = true ↔ OkI r ok ⟨wh, sz, m, l, ck⟩)
 (HM : ∀ w', Below w.heap.size w w' → Calls Tryz.prog 48 #[.int .i64 wh, .int .i64 sz, .bool false] w' fun e w2 => ∃ v, e = .returned (.tuple #[.agg #[v], .bool ok]) ∧ (Kd.int .i64).R 3 w2 w'.heap.size (fun _ => True) v r ∧ Below w'.heap.size w' w2) (h3 : k52.C w A3 l.length l) :
 Calls Tryz.prog 26 #[crV wh sz A2 m.length c2 A3 l.length c3 ck] w fun e w' => e = .returned (.bool V) ∧ Below w.heap.size w w' := by
 unfold OkI at hV
 simp only at hV
 obtain ⟨O, hO⟩ : ∃ O, O = std := ⟨_, rfl⟩
 have eqt : ∀ x y : Int, O.eq x y = true → x = y := fun x y h => by
  rw [hO] at h
  exact beq_iff_eq.1 h
 have net : ∀ x y : Int, O.ne x y = true → x ≠ y := fun x y h => by
  rw [hO] at h
  exact bne_iff_ne.1 h
 have nef : ∀ x y : Int, O.ne x y = false → x = y := fun x y h => by
  rw [hO] at h
  exact bne_eq_false_iff_eq.1 h
 have eqf : ∀ x y : Int, O.eq x y = false → x ≠ y := fun x y h => by
  rw [hO] at h
  exact beq_eq_false_iff_ne.1 h
 have ltt : ∀ x y : Int, O.lt x y = true → x < y := fun x y h => by
  rw [hO] at h
  exact of_decide_eq_true h
 have ltf : ∀ x y : Int, O.lt x y = false → ¬ x < y := fun x y h => by
  rw [hO] at h
  exact of_decide_eq_false h
 have nott : ∀ x : Bool, O.not x = true → x = false := fun x h => by
  rw [hO] at h
  cases x
  ·rfl
  ·cases h
 have notf : ∀ x : Bool, O.not x = false → x = true := fun x h => by
  rw [hO] at h
  cases x
  ·cases h
  ·rfl
 obtain ⟨f, hf, hrow⟩ := Zbm c3 h3
 have hlen := h3.2.1
 have hlt_ : ∀ a, A3 = some a → 0 < l.length → a.block < w.heap.size := fun a ha hpos => by
  obtain ⟨ad, cs, e, hl, hk, hc⟩ := Kd.C_get h3 z52 0 (Int.le_refl _) (by omega)
  rw [ha] at e
  injection e with e
  subst e
  have := World.block_lt_of_cell? w _ (hc 0 (cs[0]'(by rw [hl]; decide)) (List.getElem?_eq_getElem _))
  simpa [Addr.add] using this
 have rowsP : ∀ (S : Nat → Prop) (w' : World), Below w.heap.size w w' → (∀ q, S q → w.heap.size ≤ q) → ∀ i, ZaV (ZZ [rowT A3 c3 l f]) S w' i := fun S w' hb hS i => by
  match i with
  | i + 1 => exact Zax rfl
  | 0 =>
    by_cases h0 : l.length = 0
    ·intro _ q hq
     exact absurd hq (by show ¬ q < l.length; omega)
    ·have := hrow (ZZ [rowT A3 c3 l f]) 0 S rfl (fun a ha hs => by have := hS _ hs; have := hlt_ a ha (by omega); omega)
     intro hw q hq
     obtain ⟨g1, g2, g3, g4, g5⟩ := this hw q hq
     refine ⟨g1, g2, Nat.lt_of_lt_of_le g3 hb.size, g4, fun j x hj => ?_⟩
     have hc := g5 j x hj
     unfold World.cell? at hc ⊢
     rw [hb.block _ g3]
     exact hc
 have bel : ∀ {d w'}, Upd (Bx d 0) w w' → Below w.heap.size w w' := fun hu => hu.below fun k ⟨i, hi, _⟩ => by omega
 have hX0 : CxOk Tryz.prog (mkXR O [] [] [rowT A3 c3 l f]) (fun _ => 0) 0 w := Zaw hO ZW Zap (rowsP _ _ (Below.refl _ _) fun q ⟨i, hi, _⟩ => by omega)
 refine ZaD (X := mkXR O [] [] [rowT A3 c3 l f]) (d1 := fun _ => 0) Tryz.func26 rfl (by kernel_rfl) hm hX0 [.agg [.int wh, .int sz, .slc A2 m.length c2, .sl 0, .int ck]] 6 900 (Nat.le_of_ble_eq_true rfl) ?_
 obtain ⟨L0, hL0⟩ : ∃ L : Int → Nat, ∀ i, (rd_T52 l i).f0.length = L i := ⟨_, fun _ => rfl⟩
 obtain ⟨L1, hL1⟩ : ∃ L : Int → Int, ∀ i, (rd_T52 l i).f1 = L i := ⟨_, fun _ => rfl⟩
 obtain ⟨L2, hL2⟩ : ∃ L : Int → Nat, ∀ i, (rd_T52 l i).f2.length = L i := ⟨_, fun _ => rfl⟩
 obtain ⟨L3, hL3⟩ : ∃ L : Int → Nat, ∀ i, (rd_T52 l i).f3.length = L i := ⟨_, fun _ => rfl⟩
 have e6 : rowT A3 c3 l f = { a := A3, g := (A3.getD ⟨0, 0, none⟩).block, p := (A3.getD ⟨0, 0, none⟩).off, n := l.length, c := c3, sz := 4, get := fun i => [.slc (f i).A0 (L0 i) (f i).c0, .int (L1 i), .slc (f i).A2 (L2 i) (f i).c2, .slc (f i).A3 (L3 i) (f i).c3] } := by
  unfold rowT ZaA thC
  simp only [hL0, hL1, hL2, hL3]
 generalize hQ : Owes _ _ _ _ _ _ = Q
 rw [e6]
 generalize hn : l.length = nP
 generalize hl2 : m.length = n2
 generalize hlr : r.length = nr
 cbv
 subst hQ hn hl2 hlr
 refine Zaf hm hX0 rfl rfl rfl ⟨_, Tryz.func48, rfl, rfl⟩ rfl fun d1 w1 hr1 => ⟨_, HM w1 (bel hr1.upd), ?_⟩
 rintro e1 w2 ⟨v, rfl, hv, hb⟩
 obtain ⟨A, k0, rfl⟩ := Kd.R_slice hv
 have hr2 := hr1.below hb
 have hX2 := hX0.reroot hr2
 refine ⟨.tup [.agg [.slc A r.length k0], .bool ok], 900, _, rfl, hb, rfl, ?_⟩
 generalize hQ : Owes _ _ _ _ _ _ = Q
 rw [e6]
 generalize hn : l.length = nP
 generalize hl2 : m.length = n2
 generalize hlr : r.length = nr
 cbv
 repeat' (apply And.intro <;> (try intro) <;> (try cbv))
 all_goals subst hQ hn hl2 hlr
 all_goals first
  | (refine Zav hX2 rfl fun d3 w3 hr3 => ⟨congrArg (fun b => Ending.returned (.bool b)) (Bool.eq_false_iff.2 fun hh => ?_).symm, bel (hr2.comp hr3).upd⟩
     obtain ⟨v1, v2, v5, v6, v7⟩ := hV.1 hh
     first
      | exact tf v1 (nott _ (by assumption))
      | exact net _ _ (by assumption) (by rw [v2])
      | exact absurd (ltt ck 0 (by assumption)) (by omega)
      | exact absurd (ltt 6 (l.length : Int) (by assumption)) (by omega))
  | (
     have hV2 : V = true ↔ ∀ i : Nat, i < l.length → ThrI.F wh ck (rd_T52 l i).f0 (rd_T52 l i).f1 (rd_T52 l i).f2 (rd_T52 l i).f3 = true := ⟨fun h => (hV.1 h).2.2.2.2, fun h => hV.2 ⟨notf _ (by assumption), by have := nef (r.length : Int) (m.length : Int) (by assumption); omega, by have := ltf 6 (l.length : Int) (by assumption); omega, by have := ltf ck 0 (by assumption); omega, h⟩⟩
     intro hk d5 a5 w5 hR5 hr5
     refine ZaT (l.length + 1) ?_
     refine ZaX (fun kk a w' => ∃ (i : Nat) (d : Nat → Nat), i ≤ l.length ∧ l.length - i < kk ∧ (∀ q : Nat, q < i → ThrI.F wh ck (rd_T52 l q).f0 (rd_T52 l q).f1 (rd_T52 l q).f2 (rd_T52 l q).f3 = true) ∧ Below w.heap.size w w' ∧ (∀ q, q < 2 → w.heap.size ≤ d q) ∧ Rel (ZZ [rowT A3 c3 l f]) d (St.of 6 50 [(1, .ptr 0 0), (2, .v (.bl false)), (39, .v (.sl 0)), (40, .v (.int (l.length : Nat))), (41, .v (.int (i : Nat)))] [[.int wh, .int sz, .slc A2 m.length c2, .sl 0, .int ck], [.slc A r.length k0]]) a ∧ Zak (ZZ [rowT A3 c3 l f]) d 2 w' d [[.int wh, .int sz, .slc A2 m.length c2, .sl 0, .int ck], [.slc A r.length k0]] w') (fun a w' ⟨i, d, h1, h2, _⟩ => by omega) (fun kk a w' IH hI => ?_) _ _ _ ?_
     rotate_left
     ·exact ⟨0, d5, Nat.zero_le _, by omega, fun q hq => absurd hq (Nat.not_lt_zero _), bel (hr2.comp hr5).upd, fun q hq => (fun q hq => (hr2.comp hr5).new q (Nat.zero_le _) hq) q hq, hR5.weaken rfl ⟨rfl, rfl, rfl, rfl, rfl, trivial⟩ (ZaJ _ _ rfl), hr5.reroot⟩
     obtain ⟨i, d, hi, hkk, hq, hbw, hdw, hRel, hRe⟩ := hI
     have hXl : CxOk Tryz.prog (mkXR O [] [] [rowT A3 c3 l f]) d 2 w' := Zaw hO ZW Zap (rowsP _ _ hbw fun q ⟨i, hi, he⟩ => he ▸ hdw i hi)
     refine ZaF Zag hm hXl 900 _ _ d a w' ⟨hk.1, hk.1, hk.2⟩ hRel hRe ?_
     have belL : ∀ {d' w2}, (∀ i, i < 2 → d' i = d i) → Upd (Bx d' 2) w' w2 → Below w.heap.size w w2 := fun hd hu => Zar hbw hu (fun q ⟨i, hi, he⟩ => by rw [he, hd i hi]; exact hdw i hi) hbw.size
     generalize hQ : Owes _ _ _ _ _ _ = Q
     rw [e6]
     generalize hn : l.length = nP
     generalize hl2 : m.length = n2
     generalize hlr : r.length = nr
     cbv
     refine ⟨fun h => ?_, fun h => ?_⟩
     ·have hlt : i < l.length := by
       rw [hO] at h
       have := of_decide_eq_true (show decide ((i : Int) < (nP : Int)) = true from h)
       omega
      cbv
      refine ⟨?_, ?_⟩
      ·rw [hO]
       show (decide (0 ≤ (i : Int)) && decide ((i : Int) < (nP : Int))) = true
       rw [Bool.and_eq_true, decide_eq_true_eq, decide_eq_true_eq]
       omega
      (try cbv)
      subst hQ hn hl2 hlr
      refine Zaf hm hXl rfl rfl rfl ⟨_, Tryz.func49, rfl, rfl⟩ rfl fun d6 w6 hr6 => ?_
      have hc := thrI wh sz ck A2 m.length c2 A3 l.length c3 (f i) (rd_T52 l i) w6 ((hf i hlt).below (belL (fun _ _ => rfl) hr6.upd))
      generalize htt : ThrI.F wh ck (rd_T52 l i).f0 (rd_T52 l i).f1 (rd_T52 l i).f2 (rd_T52 l i).f3 = tt at hc
      rw [hL0, hL1, hL2, hL3] at hc
      refine ⟨_, hc, ?_⟩
      rintro e7 w7 ⟨rfl, hb7⟩
      have hr7 := hr6.below hb7
      have hX7 := hXl.reroot hr7
      refine ⟨.bool tt, 900, _, rfl, hb7, rfl, ?_⟩
      generalize hQ : Owes _ _ _ _ _ _ = Q
      rw [e6]
      generalize hn : l.length = nP
      generalize hl2 : m.length = n2
      generalize hlr : r.length = nr
      cbv
      refine ⟨fun h => ?_, fun h => ?_⟩
      ·cbv
       subst hQ hn hl2 hlr
       refine Zav hX7 rfl fun d8 w8 hr8 => ⟨congrArg (fun b => Ending.returned (.bool b)) (Bool.eq_false_iff.2 fun hh => tf (hV2.1 hh i hlt) (htt.trans (nott _ h))).symm, belL (fun _ _ => rfl) (hr7.comp hr8).upd⟩
      ·cbv
       subst hQ hn hl2 hlr
       intro hk8 d8 a8 w8 hR8 hr8
       have o6 : ∀ i, i < 2 → d8 i = d6 i := fun i hi => hr8.old i (Nat.lt_of_lt_of_le hi hr6.len)
       refine IH a8 w8 ⟨i + 1, d8, hlt, by omega, fun q hq' => ?_, belL (fun _ _ => rfl) (hr7.comp hr8).upd, fun q hq => by rw [o6 q hq, hr7.old q hq]; exact hdw q hq, hR8.weaken rfl ⟨rfl, rfl, rfl, rfl, congrArg (fun x => Slot.v (.int x)) ?_, trivial⟩ (ZaJ _ _ rfl), (Zak.drop (b := [_, _]) (r := [_]) (hr7.comp hr8) (Nat.le_refl 2)).reroot (st := ⟨0, .nil, [_, _]⟩)⟩
       ·by_cases he : q = i
        ·rw [he]; exact htt.trans (notf _ h)
        ·exact hq q (by omega)
       ·rw [hO]
        show wrap64 ((i : Int) + 1) = ((i + 1 : Nat) : Int)
        unfold wrap64
        omega
     ·have hge : i = l.length := by
       rw [hO] at h
       have := of_decide_eq_false (show decide ((i : Int) < (nP : Int)) = false from h)
       omega
      cbv
      subst hQ hn hl2 hlr
      subst hge
      exact Zav hXl rfl fun d8 w8 hr8 => ⟨congrArg (fun b => Ending.returned (.bool b)) (hV2.2 fun i hi => hq i hi).symm, belL (fun _ _ => rfl) hr8.upd⟩)
end Go.Proofs.YtgghglocfdcegaaGreat.Xec
