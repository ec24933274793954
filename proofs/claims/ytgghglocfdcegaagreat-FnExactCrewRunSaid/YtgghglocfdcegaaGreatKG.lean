/- Part G of the proof of FnExactCrewStep and FnExactCrewRun (wip/xec, pack.py). No condition. -/
import Derived.Test.YtgghglocfdcegaaGreatKF
import Derived.Test.YtgghglocfdcegaaGreatKP
import Derived.Test.YtgghglocfdcegaaGreatKE
namespace Go.Proofs.YtgghglocfdcegaaGreat.Xec
open Go Go.RowKit Go.Proofs.YtgghglocfdcegaaGreat.PFnExactCrewRun Go.Proofs.YtgghglocfdcegaaGreatW.PrintWords
set_option linter.unusedVariables false
set_option linter.unusedSimpArgs false
set_option maxRecDepth 100000
set_option maxHeartbeats 16000000
def Do.ok (l : List Int) (k p a b : Int) : Bool := decide (1 ≤ k) && (decide (k ≤ 4) && (decide (0 ≤ p) && (decide (p < (l.length : Int)) && (decide (l.length ≤ 300) && ((decide (k ≠ 1) || decide (a = 0)) && (decide (k = 3) || decide (b = 0)))))))
def Do.F (l : List Int) (k p a b : Int) : List Int × Int × Bool :=
 if Do.ok l k p a b then (if k = 1 then (l, rd l p, true) else if k = 2 then (l.set p.toNat a, 0, true) else if k = 3 then (if rd l p = a then (l.set p.toNat b, 1, true) else (l, 0, true)) else (l.set p.toNat (wrap64 (rd l p + a)), wrap64 (rd l p + a), true)) else ([], 0, false)
theorem Zgz (n : Nat) : (NatCast.natCast n : Int) = (n : Int) := rfl
theorem ZfP {l : List Int} {k p a b : Int} (h : Do.ok l k p a b = true) : 0 ≤ p ∧ p < (l.length : Int) ∧ l.length ≤ 300 ∧ 1 ≤ k ∧ k ≤ 4 := by
 simp only [Do.ok, Bool.and_eq_true, decide_eq_true_eq] at h
 exact ⟨h.2.2.1, h.2.2.2.1, h.2.2.2.2.1, h.1, h.2.1⟩
def doR (r : Row) (g n cap : Nat) (q : Int) (pre post : List Value) : Nat → Row
 | 0 => { a := r.a, g := r.g, p := r.p, n := r.n, c := r.c, sz := r.sz, get := r.get }
 | 1 => winR g n cap 1 3 q
 | 3 => boxR pre post 3
 | _ => Zfs
def doD (d : Nat → Nat) (g : Nat) : Nat → Nat
 | 0 => d 0
 | 1 => d 1
 | 2 => d 2
 | 3 => g
 | _ => 0
theorem ZfV {O : Ops} (hO : O = std) {w : World} {A : Option Addr} {c : Nat} {l : List Int} (hC : (Kd.int .i64).C w A l.length l) {d : Nat → Nat} {g cap q : Nat} {pre post : List Value} (hfar : ∀ a, A = some a → ∀ i, i < 4 → doD d g i ≠ a.block) (hq : q < l.length) (hp : pre.length = q * 1) : CxOk Tryz.prog (ZcE O [] [] (doR (rowI A c l) g l.length cap q pre post)) (doD d g) 4 w := by
 refine ⟨ZcF, ZcG, hO, fun r => ?_, fun f g l v h1 h2 => (by cases h1), fun f g cs l' cs' v' h1 h2 => (by cases h1), fun _ _ _ _ _ h => (by cases h), fun i hi => ?_, fun i hi => ?_, fun r b hb => ?_⟩
 ·match r with
  | 0 => exact ZdT (R := doR (rowI A c l) g l.length cap q pre post) (S := Bx (doD d g) 4) (A := A) (c := c) (l := l) rfl hC (fun a ha ⟨i, hi, he⟩ => hfar a ha i hi he.symm)
  | 1 => exact fun hw => by cases hw
  | 2 => exact fun _ i hi => absurd hi (Nat.not_lt_zero _)
  | 3 => exact fun _ i hi => absurd hi (Nat.not_lt_zero _)
  | r + 4 => exact fun _ i hi => absurd hi (Nat.not_lt_zero _)
 ·match i, hi with
  | 0, _ => exact ⟨rfl, rfl⟩
  | 1, _ => exact ⟨rfl, rfl⟩
  | 2, _ => exact ⟨rfl, rfl⟩
  | i + 4, _ => exact ⟨rfl, rfl⟩
  | 3, hi => cases hi
 ·match i, hi with
  | i + 4, _ => rfl
 ·match r, hb with
  | 0, hb => cases hb
  | 1, hb => injection hb with hb; subst hb; exact ⟨by decide, rfl, Int.natCast_nonneg _, Int.ofNat_lt.2 hq, hp⟩
  | 2, hb => cases hb
  | 3, hb => cases hb
  | r + 4, hb => cases hb
theorem Zeo {w : World} {r : Row} {d : Nat → Nat} {g n cap : Nat} {q x : Int} {pre post : List Value} {c0 c1 c2 : List AV} {t0 t1 t2 : Nat} (h0 : w.heap[d 0]? = some (.cells (AV.vs (doR r g n cap q pre post) c0).toArray t0 (0, 0))) (h1 : w.heap[d 1]? = some (.cells (AV.vs (doR r g n cap q pre post) c1).toArray t1 (0, 0))) (h2 : w.heap[d 2]? = some (.cells (AV.vs (doR r g n cap q pre post) c2).toArray t2 (0, 0))) (h3 : w.heap[g]? = some (.cells (pre ++ ([Value.int .i64 x] ++ post)).toArray 3 (0, 0))) (hne : d 0 ≠ d 1 ∧ d 0 ≠ d 2 ∧ d 1 ≠ d 2) (hg : d 0 ≠ g ∧ d 1 ≠ g ∧ d 2 ≠ g) :
 Zak (doR r g n cap q pre post) (doD d g) 4 w (doD d g) [c0, c1, c2, [.int x]] w := by
 refine ⟨fun i cs hi => ?_, fun i i' hi hi' he => ?_, Nat.le_refl _, fun _ _ => rfl, fun i h1 h2 => by simp at h2; omega, Upd.refl _ _⟩
 ·match i, hi with
  | 0, hi => injection hi with hi; subst hi; exact ⟨t0, fun h => (by cases h), by show w.heap[d 0]? = _; rw [h0]; simp [doR]⟩
  | 1, hi => injection hi with hi; subst hi; exact ⟨t1, fun h => (by cases h), by show w.heap[d 1]? = _; rw [h1]; simp [doR, winR]⟩
  | 2, hi => injection hi with hi; subst hi; exact ⟨t2, fun h => (by cases h), by show w.heap[d 2]? = _; rw [h2]; simp [doR, Zfs]⟩
  | 3, hi => injection hi with hi; subst hi; exact ⟨3, fun _ => rfl, h3⟩
  | i + 4, hi => cases hi
 ·match i, i', hi, hi', he with
  | 0, 0, _, _, _ => rfl
  | 1, 1, _, _, _ => rfl
  | 2, 2, _, _, _ => rfl
  | 3, 3, _, _, _ => rfl
  | 0, 1, _, _, he => exact absurd he hne.1
  | 1, 0, _, _, he => exact absurd he.symm hne.1
  | 0, 2, _, _, he => exact absurd he hne.2.1
  | 2, 0, _, _, he => exact absurd he.symm hne.2.1
  | 1, 2, _, _, he => exact absurd he hne.2.2
  | 2, 1, _, _, he => exact absurd he.symm hne.2.2
  | 0, 3, _, _, he => exact absurd he hg.1
  | 3, 0, _, _, he => exact absurd he.symm hg.1
  | 1, 3, _, _, he => exact absurd he hg.2.1
  | 3, 1, _, _, he => exact absurd he.symm hg.2.1
  | 2, 3, _, _, he => exact absurd he hg.2.2
  | 3, 2, _, _, he => exact absurd he.symm hg.2.2
  | i + 4, _, hi, _, _ => exact absurd (show i + 4 < 4 from hi) (by omega)
  | _, i + 4, _, hi, _ => exact absurd (show i + 4 < 4 from hi) (by omega)
theorem Zev.walk (A : Option Addr) (c : Nat) (l : List Int) (k p a b : Int) (w : World) (hC : (Kd.int .i64).C w A l.length l) :
 Calls Tryz.prog 96 (AV.vs (ZZ [rowI A c l]) [.agg [.sl 0], .agg [.int k, .int p, .int a, .int b]]).toArray w fun e w' => e = .returned (.bool (Do.ok l k p a b)) ∧ Below w.heap.size w w' := by
 have hlen := hC.2.1
 refine ZdS (X := mkXR std [] [] [rowI A c l]) (d1 := fun _ => 0) Tryz.func96 rfl (by kernel_rfl) hm (Zaw rfl ZW Zap (ZaG (ZaI rfl hC))) _ 6 600 (Nat.le_of_ble_eq_true rfl) _ ?_
 have hV : Do.ok l k p a b = true ↔ (1 ≤ k ∧ k ≤ 4 ∧ 0 ≤ p ∧ p < (l.length : Int) ∧ l.length ≤ 300 ∧ (k ≠ 1 ∨ a = 0) ∧ (k = 3 ∨ b = 0)) := by
  simp only [Do.ok, Bool.and_eq_true, Bool.or_eq_true, decide_eq_true_eq]
 generalize Do.ok l k p a b = V at *
 generalize hv : Value.bool V = v
 generalize hO : std = O
 unfold rowI
 generalize rd l = rd0
 generalize l.length = n0 at *
 skip
 clear hC
 (try cbv)
 repeat' (apply And.intro <;> (try intros) <;> (try cbv))
 all_goals (subst hv; subst hO; (try dsimp only [std] at *); (try simp only [decide_eq_true_eq, decide_eq_false_iff_not, beq_iff_eq, beq_eq_false_iff_ne, bne_iff_ne, bne_eq_false_iff_eq, ne_eq, Int.ofNat_eq_natCast, Zgz, Bool.not_eq_true', Bool.not_eq_false'] at *))
 all_goals (refine congrArg Value.bool ?_; rw [Bool.eq_iff_iff, hV])
 all_goals (simp <;> omega)
theorem Zci.calls2 (A : Option Addr) (c : Nat) (l : List Int) (k p a b : Int) (w : World) (hC : (Kd.int .i64).C w A l.length l) (hc : l.length ≤ c) :
 Calls Tryz.prog 65 #[.agg #[.slice A l.length c], .agg #[.int .i64 k, .int .i64 p, .int .i64 a, .int .i64 b]] w fun e w' => ∃ v, e = .returned (.tuple #[.agg #[v], .int .i64 (Do.F l k p a b).2.1, .bool (Do.F l k p a b).2.2]) ∧ (Kd.int .i64).R 3 w' w.heap.size (fun _ => True) v (Do.F l k p a b).1 ∧ Below w.heap.size w w' := by
 obtain ⟨O, hO⟩ : ∃ O, O = std := ⟨_, rfl⟩
 have hX0 : CxOk Tryz.prog (mkXR O [] [] [rowI A c l]) (fun _ => 0) 0 w := Zaw hO ZW Zap (ZaG (ZaI rfl hC))
 have bel : ∀ {d w'}, Upd (Bx d 0) w w' → Below w.heap.size w w' := fun hu => hu.below fun k ⟨i, hi, _⟩ => by omega
 refine ZaD (X := mkXR O [] [] [rowI A c l]) (d1 := fun _ => 0) Tryz.func65 rfl (by kernel_rfl) hm hX0 [.agg [.sl 0], .agg [.int k, .int p, .int a, .int b]] 7 900 (Nat.le_of_ble_eq_true rfl) ?_
 have e6 : rowI A c l = { a := A, g := (A.getD ⟨0, 0, none⟩).block, p := (A.getD ⟨0, 0, none⟩).off, n := l.length, c := c, sz := 1, get := fun i => [.int (rd l i)] } := rfl
 generalize hQ : Owes _ _ _ _ _ _ = Q
 rw [e6]
 generalize hn : l.length = n0
 generalize hrd : rd l = rd0
 cbv
 subst hQ hn hrd
 refine Zaf hm hX0 rfl rfl rfl ⟨_, Tryz.func96, rfl, rfl⟩ rfl fun d1 w1 hr1 => ⟨_, Zev.walk A c l k p a b w1 (Kd.C_below hC (bel hr1.upd)), ?_⟩
 rintro e1 w2 ⟨rfl, hb⟩
 have hr2 := hr1.below hb
 have hX2 := hX0.reroot hr2
 unfold Do.F
 generalize hok : Do.ok l k p a b = ok
 refine ⟨.bool ok, 900, _, rfl, hb, rfl, ?_⟩
 have nott : ∀ x : Bool, O.not x = true → x = false := fun x h => by
  rw [hO] at h
  cases x
  ·rfl
  ·cases h
 have notf : ∀ x : Bool, O.not x = false → x = true := fun x h => by
  rw [hO] at h
  cases x
  ·cases h
  ·rfl
 generalize hQ : Owes _ _ _ _ _ _ = Q
 rw [e6]
 generalize hn : l.length = n0
 generalize hrd : rd l = rd0
 cbv
 refine ⟨fun h => ?_, fun h => ?_⟩
 ·cbv
  subst hQ hn hrd
  refine Zav hX2 rfl fun d3 w3 hr3 => ⟨.slice none 0 0, ?_, ?_, bel (hr2.comp hr3).upd⟩
  ·rw [nott ok h]
   rfl
  ·rw [nott ok h]
   exact Kd.R_nil ..
 have hok' := notf ok h
 cbv
 subst hQ hn hrd
 subst hok'
 obtain ⟨g1, g2, g3, g4, g5⟩ := ZfP hok
 simp only [if_true]
 refine ZaZ hm rfl rfl rfl ⟨_, Tryz.func41, rfl, rfl⟩ rfl fun d3 w3 hr3 => ⟨_, spec_l02Copy.calls A c l l w3 (Kd.C_below hC (bel (hr2.comp hr3).upd)) hc (by unfold spec_l02Copy.f; rw [Option.bind_some, if_pos (by simp; omega), List.nil_append]), ?_⟩
 rintro e3 w4 ⟨v, rfl, hv, hb4⟩
 have hr4 := (hr2.comp hr3).below hb4
 obtain ⟨q, hq⟩ : ∃ q : Nat, p = (q : Int) := ⟨p.toNat, by omega⟩
 subst hq
 have hql : q < l.length := by omega
 have hlq : l[q]? = some (rd l q) := by
  show _ = some (l.getD q 0)
  rw [List.getD_eq_getElem?_getD, List.getElem?_eq_getElem hql]
  rfl
 obtain ⟨g, cap, rfl, -, -, -⟩ := Kd.R_form hv (by omega)
 obtain ⟨cu, cs, B1, B2, B3, B4, BM, Bback⟩ := ZdX (d := Kd.int .i64) rfl hv hlq
 obtain rfl : cs = [Value.int .i64 (rd l q)] := BM
 generalize hpre : cu.take (q * (Kd.int .i64).sz) = pre at *
 generalize hpost : cu.drop (q * (Kd.int .i64).sz + (Kd.int .i64).sz) = post at *
 obtain ⟨t0, -, z0⟩ := hr4.box 0 _ rfl
 obtain ⟨t1, -, z1⟩ := hr4.box 1 _ rfl
 obtain ⟨t2, -, z2⟩ := hr4.box 2 _ rfl
 have hr3' := hr2.comp hr3
 have u0 : d3 0 < w3.heap.size := hr3.lt (Nat.zero_lt_succ _)
 have u1 : d3 1 < w3.heap.size := hr3.lt (Nat.succ_lt_succ (Nat.zero_lt_succ _))
 have u2 : d3 2 < w3.heap.size := hr3.lt (Nat.succ_lt_succ (Nat.succ_lt_succ (Nat.zero_lt_succ _)))
 have v0 := hr3'.new 0 (Nat.zero_le _) (Nat.zero_lt_succ _)
 have v1 := hr3'.new 1 (Nat.zero_le _) (Nat.succ_lt_succ (Nat.zero_lt_succ _))
 have v2 := hr3'.new 2 (Nat.zero_le _) (Nat.succ_lt_succ (Nat.succ_lt_succ (Nat.zero_lt_succ _)))
 have hne : d3 0 ≠ d3 1 ∧ d3 0 ≠ d3 2 ∧ d3 1 ≠ d3 2 := ⟨fun h => absurd (hr4.inj 0 1 (Nat.zero_lt_succ _) (Nat.succ_lt_succ (Nat.zero_lt_succ _)) h) (by decide), fun h => absurd (hr4.inj 0 2 (Nat.zero_lt_succ _) (Nat.succ_lt_succ (Nat.succ_lt_succ (Nat.zero_lt_succ _))) h) (by decide), fun h => absurd (hr4.inj 1 2 (Nat.succ_lt_succ (Nat.zero_lt_succ _)) (Nat.succ_lt_succ (Nat.succ_lt_succ (Nat.zero_lt_succ _))) h) (by decide)⟩
 have hlt_ : ∀ a, A = some a → a.block < w.heap.size := fun a ha => by
  obtain ⟨ad, cs, e, hl, hk, hc⟩ := Kd.C_get hC 0 0 (Int.le_refl _) (by omega)
  rw [ha] at e
  injection e with e
  subst e
  obtain rfl : cs = [Value.int .i64 (l.getD 0 0)] := hk
  have := World.block_lt_of_cell? w _ (hc 0 _ rfl)
  simpa [Addr.add] using this
 have hw3 : w.heap.size ≤ w3.heap.size := (bel hr3'.upd).size
 have hX5 : CxOk Tryz.prog (ZcE O [] [] (doR (rowI A c l) g l.length cap q pre post)) (doD d3 g) 4 w4 := ZfV hO (Kd.C_below hC (bel hr4.upd)) (fun a ha i hi => by
  have := hlt_ a ha
  match i, hi with
  | 0, _ => show d3 0 ≠ _; omega
  | 1, _ => show d3 1 ≠ _; omega
  | 2, _ => show d3 2 ≠ _; omega
  | 3, _ => show g ≠ _; omega) hql B4
 refine ⟨_, _, ZcE O [] [] (doR (rowI A c l) g l.length cap q pre post), doD d3 g, 4, 900, St.of 7 63 [(2, .ptr 0 0), (3, .ptr 1 0), (4, .ptr 2 0), (5, .v (.lit 0)), (6, .v (.bl false)), (15, .v (.agg [.sl 1]))] _, rfl, rfl, hX5, fun a' h => h.carry rfl (by repeat (first | exact trivial | refine ⟨⟨rfl, rfl, trivial⟩, ?_⟩)) rfl, Zeo (c0 := [.sl 0]) (c1 := [.int k, .int q, .int a, .int b]) (c2 := [.slc none 0 0]) z0 z1 z2 B1 hne ⟨by omega, by omega, by omega⟩, ?_⟩
 have eqt : ∀ x y : Int, O.eq x y = true → x = y := fun x y h => by
  rw [hO] at h
  exact beq_iff_eq.1 h
 have eqf : ∀ x y : Int, O.eq x y = false → x ≠ y := fun x y h => by
  rw [hO] at h
  exact beq_eq_false_iff_ne.1 h
 have net : ∀ x y : Int, O.ne x y = true → x ≠ y := fun x y h => by
  rw [hO] at h
  exact bne_iff_ne.1 h
 have nef : ∀ x y : Int, O.ne x y = false → x = y := fun x y h => by
  rw [hO] at h
  exact bne_eq_false_iff_eq.1 h
 have hadd : ∀ x y : Int, O.add x y = wrap64 (x + y) := fun x y => by
  rw [hO]
  rfl
 have i1 : O.inb (q : Int) l.length = true := by
  rw [hO]
  show (decide (0 ≤ (q : Int)) && decide ((q : Int) < (l.length : Int))) = true
  rw [Bool.and_eq_true, decide_eq_true_eq, decide_eq_true_eq]
  omega
 have i2 : O.eq (q : Int) (q : Int) = true := by
  rw [hO]
  exact beq_iff_eq.2 rfl
 have bel4 : ∀ d' w', Upd (Bx d' 4) w4 w' → (∀ i, i < 4 → d' i = doD d3 g i) → Below w.heap.size w w' := fun d' w' hu hd => by
  refine Zar (bel hr4.upd) hu ?_ (bel hr4.upd).size
  rintro y ⟨i, hi, rfl⟩
  rw [hd i hi]
  match i, hi with
  | 0, _ => exact v0
  | 1, _ => exact v1
  | 2, _ => exact v2
  | 3, _ => show w.heap.size ≤ g; omega
 have back : ∀ d' w' x0 x1 x2 x3 y (xs : List (List AV)), Zak (doR (rowI A c l) g l.length cap q pre post) (doD d3 g) 4 w4 d' (x0 :: x1 :: x2 :: x3 :: xs) w' → AV.vs (doR (rowI A c l) g l.length cap q pre post) x3 = [.int .i64 y] → (Kd.int .i64).R 3 w' w.heap.size (fun _ => True) (.slice (some ⟨g, 0, none⟩) l.length cap) (l.set q y) := fun d' w' x0 x1 x2 x3 y xs hr he => by
  obtain ⟨y3, q3, z3⟩ := hr.box 3 x3 rfl
  rw [hr.old 3 (by decide), he, q3 rfl] at z3
  exact Kd.R_lower (Bback w' y _ z3 rfl) hw3
 have hset : l.set q (rd l q) = l := by
  apply List.ext_getElem?
  intro i
  by_cases hi : q = i
  ·subst hi
   rw [List.getElem?_set_self hql, hlq]
  ·rw [List.getElem?_set_ne hi]
 generalize hQ : Owes _ _ _ _ _ _ = Q
 rw [e6]
 generalize hn : l.length = n0
 generalize hrd : rd l = rd0
 cbv
 repeat' (apply And.intro <;> (try intro) <;> (try cbv))
 all_goals subst hQ hn hrd
 all_goals (try first | exact i1 | exact i2)
 all_goals first
  | have hk := eqt k 2 (by assumption)
  | have hk := eqt k 3 (by assumption)
  | have hk := eqt k 4 (by assumption)
  | have hk := eqt k 1 (by assumption)
  | (have hk : k = 1 := by
      have := eqf k 2 (by assumption)
      have := eqf k 3 (by assumption)
      have := eqf k 4 (by assumption)
      omega)
  | (have hk : k = 4 := by
      have := eqf k 1 (by assumption)
      have := eqf k 2 (by assumption)
      have := eqf k 3 (by assumption)
      omega)
 all_goals
  subst hk
  refine Zav hX5 rfl fun d7 w7 hr7 => ⟨.slice (some ⟨g, 0, none⟩) l.length cap, ?_, ?_, bel4 _ _ hr7.upd fun _ _ => rfl⟩
 all_goals first
  | rfl
  | (rw [if_pos (nef (rd l q) a (by assumption))]; rfl)
  | (rw [if_neg (net (rd l q) a (by assumption))]; rfl)
  | exact congrArg (fun x => Ending.returned (.tuple #[.agg #[.slice (some ⟨g, 0, none⟩) l.length cap], .int .i64 x, .bool true])) (hadd _ _)
  | exact back d7 w7 _ _ _ _ a _ hr7 rfl
  | (rw [if_pos (nef (rd l q) a (by assumption))]; exact back d7 w7 _ _ _ _ b _ hr7 rfl)
  | (rw [if_neg (net (rd l q) a (by assumption))]
     have := back d7 w7 _ _ _ _ (rd l q) _ hr7 rfl
     rw [hset] at this
     exact this)
  | exact back d7 w7 _ _ _ _ (wrap64 (rd l q + a)) _ hr7 (congrArg (fun x => [Value.int .i64 x]) (hadd _ _))
  | (have := back d7 w7 _ _ _ _ (rd l q) _ hr7 rfl
     rw [hset] at this
     exact this)
theorem ZeC.walk (A : Option Addr) (c : Nat) (l : List Int) (k p a b : Int) (w : World) (hC : (Kd.int .i64).C w A l.length l) :
 Calls Tryz.prog 119 (AV.vs (ZZ [rowI A c l]) [.agg [.sl 0], .agg [.int k, .int p, .int a, .int b]]).toArray w fun e w' => e = .returned (.bool (Do.ok l k p a b)) ∧ Below w.heap.size w w' := by
 have hlen := hC.2.1
 refine ZdS (X := mkXR std [(82, impl_within.g)] [] [rowI A c l]) (d1 := fun _ => 0) Tryz.func119 rfl (by kernel_rfl) hm (Zaw rfl (all_cons impl_within.fn ZW) Zap (ZaG (ZaI rfl hC))) _ 6 600 (Nat.le_of_ble_eq_true rfl) _ ?_
 have hV : Do.ok l k p a b = true ↔ (1 ≤ k ∧ k ≤ 4 ∧ 0 ≤ p ∧ p < (l.length : Int) ∧ l.length ≤ 300 ∧ (k ≠ 1 ∨ a = 0) ∧ (k = 3 ∨ b = 0)) := by
  simp only [Do.ok, Bool.and_eq_true, Bool.or_eq_true, decide_eq_true_eq]
 generalize Do.ok l k p a b = V at *
 generalize hv : Value.bool V = v
 generalize hO : std = O
 unfold rowI
 generalize rd l = rd0
 generalize l.length = n0 at *
 unfold impl_within.g
 have hW : ∀ x y z, impl_within.F x y z = (decide (y ≤ x) && decide (x ≤ z)) := fun x y z => by
  unfold impl_within.F impl_within.f
  by_cases h1 : x < y <;> by_cases h2 : z < x <;> simp [h1, h2, Int.not_le.2, Int.not_lt.1] <;> omega
 generalize impl_within.F = fW at *
 clear hC
 (try cbv)
 repeat' (apply And.intro <;> (try intros) <;> (try cbv))
 all_goals (subst hv; subst hO; (try dsimp only [std] at *); (try simp only [decide_eq_true_eq, decide_eq_false_iff_not, beq_iff_eq, beq_eq_false_iff_ne, bne_iff_ne, bne_eq_false_iff_eq, ne_eq, Int.ofNat_eq_natCast, Zgz, Bool.not_eq_true', Bool.not_eq_false'] at *))
 all_goals (refine congrArg Value.bool ?_; rw [Bool.eq_iff_iff, hV])
 all_goals have e : wrap64 ((n0 : Int) - 1) = n0 - 1 := (by unfold wrap64; omega)
 all_goals (try simp only [hW, Bool.not_eq_true', Bool.not_eq_false', Bool.and_eq_true, Bool.and_eq_false_iff, decide_eq_true_eq, decide_eq_false_iff_not] at *)
 all_goals (simp <;> omega)
theorem Zcs.calls2 (A : Option Addr) (c : Nat) (l : List Int) (k p a b : Int) (w : World) (hC : (Kd.int .i64).C w A l.length l) (hc : l.length ≤ c) :
 Calls Tryz.prog 108 #[.agg #[.slice A l.length c], .agg #[.int .i64 k, .int .i64 p, .int .i64 a, .int .i64 b]] w fun e w' => ∃ v, e = .returned (.tuple #[.agg #[v], .int .i64 (Do.F l k p a b).2.1, .bool (Do.F l k p a b).2.2]) ∧ (Kd.int .i64).R 3 w' w.heap.size (fun _ => True) v (Do.F l k p a b).1 ∧ Below w.heap.size w w' := by
 obtain ⟨O, hO⟩ : ∃ O, O = std := ⟨_, rfl⟩
 have hX0 : CxOk Tryz.prog (mkXR O [] [] [rowI A c l]) (fun _ => 0) 0 w := Zaw hO ZW Zap (ZaG (ZaI rfl hC))
 have bel : ∀ {d w'}, Upd (Bx d 0) w w' → Below w.heap.size w w' := fun hu => hu.below fun k ⟨i, hi, _⟩ => by omega
 refine ZaD (X := mkXR O [] [] [rowI A c l]) (d1 := fun _ => 0) Tryz.func108 rfl (by kernel_rfl) hm hX0 [.agg [.sl 0], .agg [.int k, .int p, .int a, .int b]] 7 900 (Nat.le_of_ble_eq_true rfl) ?_
 have e6 : rowI A c l = { a := A, g := (A.getD ⟨0, 0, none⟩).block, p := (A.getD ⟨0, 0, none⟩).off, n := l.length, c := c, sz := 1, get := fun i => [.int (rd l i)] } := rfl
 generalize hQ : Owes _ _ _ _ _ _ = Q
 rw [e6]
 generalize hn : l.length = n0
 generalize hrd : rd l = rd0
 cbv
 subst hQ hn hrd
 refine Zaf hm hX0 rfl rfl rfl ⟨_, Tryz.func119, rfl, rfl⟩ rfl fun d1 w1 hr1 => ⟨_, ZeC.walk A c l k p a b w1 (Kd.C_below hC (bel hr1.upd)), ?_⟩
 rintro e1 w2 ⟨rfl, hb⟩
 have hr2 := hr1.below hb
 have hX2 := hX0.reroot hr2
 unfold Do.F
 generalize hok : Do.ok l k p a b = ok
 refine ⟨.bool ok, 900, _, rfl, hb, rfl, ?_⟩
 have nott : ∀ x : Bool, O.not x = true → x = false := fun x h => by
  rw [hO] at h
  cases x
  ·rfl
  ·cases h
 have notf : ∀ x : Bool, O.not x = false → x = true := fun x h => by
  rw [hO] at h
  cases x
  ·cases h
  ·rfl
 generalize hQ : Owes _ _ _ _ _ _ = Q
 rw [e6]
 generalize hn : l.length = n0
 generalize hrd : rd l = rd0
 cbv
 refine ⟨fun h => ?_, fun h => ?_⟩
 ·cbv
  subst hQ hn hrd
  refine Zav hX2 rfl fun d3 w3 hr3 => ⟨.slice none 0 0, ?_, ?_, bel (hr2.comp hr3).upd⟩
  ·rw [nott ok h]
   rfl
  ·rw [nott ok h]
   exact Kd.R_nil ..
 have hok' := notf ok h
 cbv
 subst hQ hn hrd
 subst hok'
 obtain ⟨g1, g2, g3, g4, g5⟩ := ZfP hok
 simp only [if_true]
 refine ZaZ hm rfl rfl rfl ⟨_, Tryz.func59, rfl, rfl⟩ rfl fun d3 w3 hr3 => ⟨_, impl_copyMem.calls A c l l w3 (Kd.C_below hC (bel (hr2.comp hr3).upd)) hc (by unfold impl_copyMem.f impl_copyInts.f; rw [if_pos (by simp; omega)]; rfl), ?_⟩
 rintro e3 w4 ⟨v, rfl, hv, hb4⟩
 have hr4 := (hr2.comp hr3).below hb4
 obtain ⟨q, hq⟩ : ∃ q : Nat, p = (q : Int) := ⟨p.toNat, by omega⟩
 subst hq
 have hql : q < l.length := by omega
 have hlq : l[q]? = some (rd l q) := by
  show _ = some (l.getD q 0)
  rw [List.getD_eq_getElem?_getD, List.getElem?_eq_getElem hql]
  rfl
 obtain ⟨g, cap, rfl, -, -, -⟩ := Kd.R_form hv (by omega)
 obtain ⟨cu, cs, B1, B2, B3, B4, BM, Bback⟩ := ZdX (d := Kd.int .i64) rfl hv hlq
 obtain rfl : cs = [Value.int .i64 (rd l q)] := BM
 generalize hpre : cu.take (q * (Kd.int .i64).sz) = pre at *
 generalize hpost : cu.drop (q * (Kd.int .i64).sz + (Kd.int .i64).sz) = post at *
 obtain ⟨t0, -, z0⟩ := hr4.box 0 _ rfl
 obtain ⟨t1, -, z1⟩ := hr4.box 1 _ rfl
 obtain ⟨t2, -, z2⟩ := hr4.box 2 _ rfl
 have hr3' := hr2.comp hr3
 have u0 : d3 0 < w3.heap.size := hr3.lt (Nat.zero_lt_succ _)
 have u1 : d3 1 < w3.heap.size := hr3.lt (Nat.succ_lt_succ (Nat.zero_lt_succ _))
 have u2 : d3 2 < w3.heap.size := hr3.lt (Nat.succ_lt_succ (Nat.succ_lt_succ (Nat.zero_lt_succ _)))
 have v0 := hr3'.new 0 (Nat.zero_le _) (Nat.zero_lt_succ _)
 have v1 := hr3'.new 1 (Nat.zero_le _) (Nat.succ_lt_succ (Nat.zero_lt_succ _))
 have v2 := hr3'.new 2 (Nat.zero_le _) (Nat.succ_lt_succ (Nat.succ_lt_succ (Nat.zero_lt_succ _)))
 have hne : d3 0 ≠ d3 1 ∧ d3 0 ≠ d3 2 ∧ d3 1 ≠ d3 2 := ⟨fun h => absurd (hr4.inj 0 1 (Nat.zero_lt_succ _) (Nat.succ_lt_succ (Nat.zero_lt_succ _)) h) (by decide), fun h => absurd (hr4.inj 0 2 (Nat.zero_lt_succ _) (Nat.succ_lt_succ (Nat.succ_lt_succ (Nat.zero_lt_succ _))) h) (by decide), fun h => absurd (hr4.inj 1 2 (Nat.succ_lt_succ (Nat.zero_lt_succ _)) (Nat.succ_lt_succ (Nat.succ_lt_succ (Nat.zero_lt_succ _))) h) (by decide)⟩
 have hlt_ : ∀ a, A = some a → a.block < w.heap.size := fun a ha => by
  obtain ⟨ad, cs, e, hl, hk, hc⟩ := Kd.C_get hC 0 0 (Int.le_refl _) (by omega)
  rw [ha] at e
  injection e with e
  subst e
  obtain rfl : cs = [Value.int .i64 (l.getD 0 0)] := hk
  have := World.block_lt_of_cell? w _ (hc 0 _ rfl)
  simpa [Addr.add] using this
 have hw3 : w.heap.size ≤ w3.heap.size := (bel hr3'.upd).size
 have hX5 : CxOk Tryz.prog (ZcE O [] [] (doR (rowI A c l) g l.length cap q pre post)) (doD d3 g) 4 w4 := ZfV hO (Kd.C_below hC (bel hr4.upd)) (fun a ha i hi => by
  have := hlt_ a ha
  match i, hi with
  | 0, _ => show d3 0 ≠ _; omega
  | 1, _ => show d3 1 ≠ _; omega
  | 2, _ => show d3 2 ≠ _; omega
  | 3, _ => show g ≠ _; omega) hql B4
 refine ⟨_, _, ZcE O [] [] (doR (rowI A c l) g l.length cap q pre post), doD d3 g, 4, 900, St.of 7 67 [(2, .ptr 0 0), (3, .ptr 1 0), (4, .ptr 2 0), (5, .v (.lit 0)), (6, .v (.bl false)), (15, .v (.agg [.sl 1]))] _, rfl, rfl, hX5, fun a' h => h.carry rfl (by repeat (first | exact trivial | refine ⟨⟨rfl, rfl, trivial⟩, ?_⟩)) rfl, Zeo (c0 := [.sl 0]) (c1 := [.int k, .int q, .int a, .int b]) (c2 := [.slc none 0 0]) z0 z1 z2 B1 hne ⟨by omega, by omega, by omega⟩, ?_⟩
 have eqt : ∀ x y : Int, O.eq x y = true → x = y := fun x y h => by
  rw [hO] at h
  exact beq_iff_eq.1 h
 have eqf : ∀ x y : Int, O.eq x y = false → x ≠ y := fun x y h => by
  rw [hO] at h
  exact beq_eq_false_iff_ne.1 h
 have net : ∀ x y : Int, O.ne x y = true → x ≠ y := fun x y h => by
  rw [hO] at h
  exact bne_iff_ne.1 h
 have nef : ∀ x y : Int, O.ne x y = false → x = y := fun x y h => by
  rw [hO] at h
  exact bne_eq_false_iff_eq.1 h
 have hadd : ∀ x y : Int, O.add x y = wrap64 (x + y) := fun x y => by
  rw [hO]
  rfl
 have i1 : O.inb (q : Int) l.length = true := by
  rw [hO]
  show (decide (0 ≤ (q : Int)) && decide ((q : Int) < (l.length : Int))) = true
  rw [Bool.and_eq_true, decide_eq_true_eq, decide_eq_true_eq]
  omega
 have i2 : O.eq (q : Int) (q : Int) = true := by
  rw [hO]
  exact beq_iff_eq.2 rfl
 have bel4 : ∀ d' w', Upd (Bx d' 4) w4 w' → (∀ i, i < 4 → d' i = doD d3 g i) → Below w.heap.size w w' := fun d' w' hu hd => by
  refine Zar (bel hr4.upd) hu ?_ (bel hr4.upd).size
  rintro y ⟨i, hi, rfl⟩
  rw [hd i hi]
  match i, hi with
  | 0, _ => exact v0
  | 1, _ => exact v1
  | 2, _ => exact v2
  | 3, _ => show w.heap.size ≤ g; omega
 have back : ∀ d' w' x0 x1 x2 x3 y (xs : List (List AV)), Zak (doR (rowI A c l) g l.length cap q pre post) (doD d3 g) 4 w4 d' (x0 :: x1 :: x2 :: x3 :: xs) w' → AV.vs (doR (rowI A c l) g l.length cap q pre post) x3 = [.int .i64 y] → (Kd.int .i64).R 3 w' w.heap.size (fun _ => True) (.slice (some ⟨g, 0, none⟩) l.length cap) (l.set q y) := fun d' w' x0 x1 x2 x3 y xs hr he => by
  obtain ⟨y3, q3, z3⟩ := hr.box 3 x3 rfl
  rw [hr.old 3 (by decide), he, q3 rfl] at z3
  exact Kd.R_lower (Bback w' y _ z3 rfl) hw3
 have hset : l.set q (rd l q) = l := by
  apply List.ext_getElem?
  intro i
  by_cases hi : q = i
  ·subst hi
   rw [List.getElem?_set_self hql, hlq]
  ·rw [List.getElem?_set_ne hi]
 generalize hQ : Owes _ _ _ _ _ _ = Q
 rw [e6]
 generalize hn : l.length = n0
 generalize hrd : rd l = rd0
 cbv
 repeat' (apply And.intro <;> (try intro) <;> (try cbv))
 all_goals subst hQ hn hrd
 all_goals (try first | exact i1 | exact i2)
 all_goals first
  | have hk := eqt k 2 (by assumption)
  | have hk := eqt k 3 (by assumption)
  | have hk := eqt k 4 (by assumption)
  | have hk := eqt k 1 (by assumption)
  | (have hk : k = 1 := by
      have := eqf k 2 (by assumption)
      have := eqf k 3 (by assumption)
      have := eqf k 4 (by assumption)
      omega)
  | (have hk : k = 4 := by
      have := eqf k 1 (by assumption)
      have := eqf k 2 (by assumption)
      have := eqf k 3 (by assumption)
      omega)
 all_goals
  subst hk
  refine Zav hX5 rfl fun d7 w7 hr7 => ⟨.slice (some ⟨g, 0, none⟩) l.length cap, ?_, ?_, bel4 _ _ hr7.upd fun _ _ => rfl⟩
 all_goals first
  | rfl
  | (rw [if_pos (nef (rd l q) a (by assumption))]; rfl)
  | (rw [if_neg (net (rd l q) a (by assumption))]; rfl)
  | exact congrArg (fun x => Ending.returned (.tuple #[.agg #[.slice (some ⟨g, 0, none⟩) l.length cap], .int .i64 x, .bool true])) (hadd _ _)
  | exact back d7 w7 _ _ _ _ a _ hr7 rfl
  | (rw [if_pos (nef (rd l q) a (by assumption))]; exact back d7 w7 _ _ _ _ b _ hr7 rfl)
  | (rw [if_neg (net (rd l q) a (by assumption))]
     have := back d7 w7 _ _ _ _ (rd l q) _ hr7 rfl
     rw [hset] at this
     exact this)
  | exact back d7 w7 _ _ _ _ (wrap64 (rd l q + a)) _ hr7 (congrArg (fun x => [Value.int .i64 x]) (hadd _ _))
  | (have := back d7 w7 _ _ _ _ (rd l q) _ hr7 rfl
     rw [hset] at this
     exact this)
end Go.Proofs.YtgghglocfdcegaaGreat.Xec
namespace Go.Proofs.YtgghglocfdcegaaGreat.Xec
open Go Go.RowKit Go.Proofs.YtgghglocfdcegaaGreat.PFnExactCrewRun Go.Proofs.YtgghglocfdcegaaGreatW.PrintWords
set_option linter.unusedVariables false
set_option linter.unusedSimpArgs false
def Do.f (l : List Int) (k p a b : Int) : Option (List Int × Int × Bool) := some (Do.F l k p a b)
theorem Do.tot (l : List Int) (k p a b : Int) : Do.f l k p a b = some (Do.F l k p a b) := rfl
def Do.g (F : List Int → Int → Int → Int → Int → List Int × Int × Bool) (r : Nat) (l : List Int) : List AV → Option (List Int × (AV → AV))
 | [.agg [.sl q], .agg [x0, x1, x2, x3]] => if q == r then (i1 x0).bind fun k => (i1 x1).bind fun p => (i1 x2).bind fun a => (i1 x3).bind fun b => some ((F l k p a b).1, fun m => .tup [.agg [m], .int (F l k p a b).2.1, .bool (F l k p a b).2.2]) else none
 | _ => none
theorem Do.g_some {F : List Int → Int → Int → Int → Int → List Int × Int × Bool} {r : Nat} {l : List Int} {L : List AV} {o : List Int × (AV → AV)} (h : Do.g F r l L = some o) : ∃ k p a b, (∀ R, AV.vs R L = [.agg #[.slice (R r).a (R r).n (R r).c], .agg #[.int .i64 k, .int .i64 p, .int .i64 a, .int .i64 b]]) ∧ o = ((F l k p a b).1, fun m => .tup [.agg [m], .int (F l k p a b).2.1, .bool (F l k p a b).2.2]) := by
 unfold Do.g at h
 split at h
 ·rename_i q x0 x1 x2 x3
  split at h
  ·rename_i hq
   rw [beq_iff_eq] at hq
   subst hq
   obtain ⟨k, e0, h⟩ := Option.bind_eq_some_iff.1 h
   obtain ⟨p, e1, h⟩ := Option.bind_eq_some_iff.1 h
   obtain ⟨a, e2, h⟩ := Option.bind_eq_some_iff.1 h
   obtain ⟨b, e3, h⟩ := Option.bind_eq_some_iff.1 h
   injection h with h
   exact ⟨k, p, a, b, fun R => by simp only [AV.vs, AV.v, i1_v R e0, i1_v R e1, i1_v R e2, i1_v R e3], h.symm⟩
  ·cases h
 ·cases h
theorem Zci.fn : FnD 65 (Do.g Do.F) := by
 refine ⟨⟨_, Tryz.func65, rfl, rfl⟩, fun R r A c l L o hR hc h w hC => ?_⟩
 obtain ⟨k, p, a, b, e, rfl⟩ := Do.g_some h
 have := Zci.calls2 A c l k p a b w hC hc
 rw [e R, hR]
 refine this.mono fun e w' ⟨v, h1, h2, h3⟩ => ?_
 obtain ⟨A', k', c', rfl⟩ := R_slice h2
 exact ⟨A', k', c', h1, h2, h3⟩
theorem Zcs.fn : FnD 108 (Do.g Do.F) := by
 refine ⟨⟨_, Tryz.func108, rfl, rfl⟩, fun R r A c l L o hR hc h w hC => ?_⟩
 obtain ⟨k, p, a, b, e, rfl⟩ := Do.g_some h
 have := Zcs.calls2 A c l k p a b w hC hc
 rw [e R, hR]
 refine this.mono fun e w' ⟨v, h1, h2, h3⟩ => ?_
 obtain ⟨A', k', c', rfl⟩ := R_slice h2
 exact ⟨A', k', c', h1, h2, h3⟩
theorem ZbD {P : Program} {X : Cx} {d1 : Nat → Nat} {n1 : Nat} {w : World} : DOk P X d1 n1 w (ZcA []) := ⟨fun f G h => (by cases h), fun f G L r h => (by cases h)⟩
theorem ZaQ {X : Cx} {w : World} {A : Option Addr} {c : Nat} {l : List Int} {f : FuncId} {g : Nat → List Int → List AV → Option (List Int × (AV → AV))} {D : List (FuncId × (List AV → Option (List Int × (AV → AV))))} (h : FnD f g) (hR : X.R 0 = rowI A c l) (hc : l.length ≤ c) (hC : (Kd.int .i64).C w A l.length l) (hD : DOk Tryz.prog X (fun _ => 0) 0 w (ZcA D)) : DOk Tryz.prog X (fun _ => 0) 0 w (ZcA ((f, g 0 l) :: D)) := by
 refine ⟨fun f' G hl => ?_, fun f' G L r hl hG w' hu => ?_⟩
 ·simp only [ZcA] at hl
  split at hl
  ·rename_i he
   rw [beq_iff_eq] at he
   subst he
   exact h.fn
  ·exact hD.named f' G hl
 ·simp only [ZcA] at hl
  split at hl
  ·rename_i he
   rw [beq_iff_eq] at he
   subst he
   injection hl with hl
   subst hl
   exact h.run X.R 0 A c l L r hR hc hG w' (Kd.C_below hC (hu.below fun k ⟨i, hi, _⟩ => by omega))
  ·exact hD.run f' G L r hl hG w' hu
def Zb1 (f : FuncId) (L : List (FuncId × (List AV → Option AV))) (M : List (FuncId × (List AV → List AV → Option (List AV × AV)))) (D : List (FuncId × (List AV → Option (List Int × (AV → AV))))) (rs : List Row) (dep n : Nat) (args : List AV) (m : List Int) (E : Value → Value) : Prop :=
 ∃ fn c, Tryz.prog.funcs[f]? = some fn ∧ fn.body = some c ∧ ZaB c = true ∧ args.length ≤ fn.ntmps ∧ ∀ O, O = std → ∀ a k c', (seg (mkXR O L M rs) n [.code c] (ZaY dep fn.ntmps (Zbo args) [])).holds (AnsD (mkXR O L M rs) (ZcA D) n fn.results.toList m E (.slc a k c'))
theorem Zb1.calls {f : FuncId} {L : List (FuncId × (List AV → Option AV))} {M : List (FuncId × (List AV → List AV → Option (List AV × AV)))} {D : List (FuncId × (List AV → Option (List Int × (AV → AV))))} {rs : List Row} {dep n : Nat} {args : List AV} {m : List Int} {E : Value → Value} (h : Zb1 f L M D rs dep n args m E) {w : World} (hL : All L) (hM : AllM M) (hr : ∀ r, ZaV (ZZ rs) (Bx (fun _ => 0) 0) w r) (hD : DOk Tryz.prog (mkXR std L M rs) (fun _ => 0) 0 w (ZcA D)) : Calls Tryz.prog f (AV.vs (ZZ rs) args).toArray w fun e w' => ∃ v, e = .returned (E v) ∧ (Kd.int .i64).R 3 w' w.heap.size (fun _ => True) v m ∧ Below w.heap.size w w' := by
 obtain ⟨fn, c, h1, h2, h3, h4, h5⟩ := h
 exact ZfT (X := mkXR std L M rs) (d1 := fun _ => 0) h1 h2 h3 hm (Zaw rfl hL hM hr) hD args dep n h4 m E (h5 std rfl)
theorem w2 {f : FuncId} {L : List (FuncId × (List AV → Option AV))} {M : List (FuncId × (List AV → List AV → Option (List AV × AV)))} {D : List (FuncId × (List AV → Option (List Int × (AV → AV))))} {rs : List Row} {dep n : Nat} {args : List AV} {m : List Int} {E : Value → Value} (h : ∀ m' E' O a k c', m' = m → E' = E → O = std → ∃ fn c, Tryz.prog.funcs[f]? = some fn ∧ fn.body = some c ∧ ZaB c = true ∧ args.length ≤ fn.ntmps ∧ (seg (mkXR O L M rs) n [.code c] (ZaY dep fn.ntmps (Zbo args) [])).holds (AnsD (mkXR O L M rs) (ZcA D) n fn.results.toList m' E' (.slc a k c'))) : Zb1 f L M D rs dep n args m E := by
 obtain ⟨fn, c, h1, h2, h3, h4, h5⟩ := h m E std none 0 0 rfl rfl rfl
 refine ⟨fn, c, h1, h2, h3, h4, fun O hO a k c' => ?_⟩
 obtain ⟨fn', c', h1', h2', h3', h4', h5'⟩ := h m E O a k c' rfl rfl hO
 rw [h1] at h1'
 injection h1' with h1'
 subst h1'
 rw [h2] at h2'
 injection h2' with h2'
 subst h2'
 exact h5'
end Go.Proofs.YtgghglocfdcegaaGreat.Xec
namespace Go.Proofs.YtgghglocfdcegaaGreat.Xec.Plain
open Go Go.RowKit Go.Proofs.YtgghglocfdcegaaGreatW.PrintWords
set_option linter.unusedVariables false
set_option linter.unusedSimpArgs false
set_option maxRecDepth 100000
set_option maxHeartbeats 16000000
theorem w64 {x : Int} (h0 : -9223372036854775808 ≤ x) (h1 : x ≤ 9223372036854775807) : wrap64 x = x := by unfold wrap64; omega
structure I64 (x : Int) : Prop where
 lo : -9223372036854775808 ≤ x
 hi : x ≤ 9223372036854775807
theorem ZbJ (x : Int) : I64 (wrap64 x) := by constructor <;> (unfold wrap64; omega)
theorem Gd {p : Prop} (h : p := by (repeat' apply And.intro) <;> first | assumption | exact ZbJ _ | (constructor <;> omega)) : p := h
theorem ZaC (a lo hi : Int) : impl_within.f a lo hi = some (decide (lo ≤ a ∧ a ≤ hi)) := by
 unfold impl_within.f
 by_cases h : a ≥ lo
 ·rw [if_pos h]
  have h' : lo ≤ a := h
  simp [h']
 ·rw [if_neg h]
  have h' : ¬ lo ≤ a := h
  simp [h']
theorem ZbS (a lo hi : Int) : ZP.f a lo hi = some (decide (lo ≤ a ∧ a ≤ hi)) := by
 unfold ZP.f
 by_cases h : a ≥ lo
 ·rw [if_pos h]
  have h' : lo ≤ a := h
  simp [h']
 ·rw [if_neg h]
  have h' : ¬ lo ≤ a := h
  simp [h']
theorem Zdf (w : Int) (hw : w ≤ 9223372036854775807) : ∃ t i b, Z9.f w = some (t, i, b) ∧ Zaa.f w = some (t, i, b) ∧ 0 ≤ i ∧ i ≤ 1048575 ∧ 0 ≤ t ∧ t ≤ 1073741823 ∧ (b = false → i = 0 ∧ t = 0) ∧ (b = true → w = t * 1048576 + i) := by
 by_cases h0 : w < 0
 ·exact ⟨0, 0, false, by unfold Z9.f; rw [if_pos h0], by unfold Zaa.f; rw [if_pos h0], by omega, by omega, by omega, by omega, by simp, by simp⟩
 ·have e1 : Int.tdiv w 1048576 = w / 1048576 := Int.tdiv_eq_ediv_of_nonneg (by omega)
  have e2 : Int.tmod w 1048576 = w % 1048576 := Int.tmod_eq_emod_of_nonneg (by omega)
  have e3 : wrap64 (w / 1048576) = w / 1048576 := w64 (by omega) (by omega)
  by_cases h1 : w / 1048576 > 1073741823
  ·exact ⟨0, 0, false, by unfold Z9.f; rw [if_neg h0, e1, e3, if_pos h1], by unfold Zaa.f; rw [if_neg h0, e1, e3, if_pos h1], by omega, by omega, by omega, by omega, by simp, by simp⟩
  ·exact ⟨w / 1048576, w % 1048576, true, by unfold Z9.f; rw [if_neg h0, e1, e2, e3, if_neg h1], by unfold Zaa.f; rw [if_neg h0, e1, e2, e3, if_neg h1], by omega, by omega, by omega, by omega, by simp, fun _ => by omega⟩
theorem Ze3 (t : Int) : Zam.f t = some (if 0 ≤ t ∧ t ≤ 1073741822 then t + 1 else 0) ∧ Zan.f t = some (if 0 ≤ t ∧ t ≤ 1073741822 then t + 1 else 0) := by
 unfold Zam.f Zan.f
 simp only [ZbS, ZaC, Option.bind_some, decide_eq_true_eq]
 by_cases h : 0 ≤ t ∧ t ≤ 1073741822
 ·simp only [if_pos h]; rw [w64 (by omega) (by omega)]; exact ⟨rfl, rfl⟩
 ·simp only [if_neg h]; exact ⟨trivial, trivial⟩
theorem Zgw (t i : Int) : ∃ w b, Zat.f t i = some (w, b) ∧ Zas.f t i = some (w, b) ∧ (b = decide ((0 ≤ t ∧ t ≤ 1073741823) ∧ 0 ≤ i ∧ i ≤ 1048575)) ∧ (b = true → w = t * 1048576 + i) ∧ I64 w := by
 unfold Zat.f Zas.f
 simp only [ZbS, ZaC, Option.bind_some, decide_eq_true_eq]
 by_cases h : 0 ≤ t ∧ t ≤ 1073741823
 ·by_cases h2 : 0 ≤ i ∧ i ≤ 1048575
  ·simp only [if_pos h, if_pos h2]
   refine ⟨_, _, rfl, rfl, (decide_eq_true ⟨h, h2⟩).symm, fun _ => ?_, Gd⟩
   rw [w64 (x := t * 1048576) (by omega) (by omega), w64 (by omega) (by omega)]
  ·simp only [if_pos h, if_neg h2]
   exact ⟨_, _, rfl, rfl, (decide_eq_false fun hh => h2 hh.2).symm, by simp, Gd⟩
 ·simp only [if_neg h]
  exact ⟨_, _, rfl, rfl, (decide_eq_false fun hh => h hh.1).symm, by simp, Gd⟩
theorem modB (n m : Int) (hm : 1 ≤ m) (hm2 : m ≤ 1000) (hn : -9223372036854775808 ≤ n) (hn2 : n ≤ 9223372036854775807) : Zaj.f n m = some (n % m) ∧ Zal.f n m = some (n % m) := by
 have h0 : 0 ≤ n % m := Int.emod_nonneg _ (by omega)
 have h1 : n % m < m := Int.emod_lt_of_pos _ (by omega)
 have key : (if Int.tmod n m < 0 then (some (wrap64 (Int.tmod n m + m))) else some (Int.tmod n m)) = some (n % m) := by
  rw [Int.tmod_eq_emod]
  by_cases h : 0 ≤ n ∨ m ∣ n
  ·rw [if_pos h, show ((0 : Nat) : Int) = 0 from rfl, Int.sub_zero, if_neg (by omega)]
  ·rw [if_neg h, show ((m.natAbs : Nat) : Int) = m by omega, if_pos (by omega), w64 (by omega) (by omega), show n % m - m + m = n % m by omega]
 constructor
 ·unfold Zaj.f
  rw [if_neg (by omega), if_neg (by omega), key]
 ·unfold Zal.f
  rw [if_neg (by omega), if_neg (by omega), key]
theorem Zd1 (l : List Int) (hl : l.length ≤ 1048576) (hB : ∀ y ∈ l, I64 y) (kd a x y : Int) (hx : I64 x) (hy : I64 y) : ∃ (r : List Int) (t : Int) (q : Bool), (r.length ≤ l.length ∧ ∀ y ∈ r, I64 y) ∧ Do.f l kd a x y = some (r, t, q) ∧ Do.f l kd a x y = some (r, t, q) := by
 refine ⟨(Do.F l kd a x y).1, (Do.F l kd a x y).2.1, (Do.F l kd a x y).2.2, ?_, rfl, rfl⟩
 have hs : ∀ (j : Nat) (z : Int), I64 z → ∀ y ∈ l.set j z, I64 y := fun j z hz y hy => (List.mem_or_eq_of_mem_set hy).elim (hB y) fun e => e ▸ hz
 unfold Do.F
 repeat' split
 all_goals simp only [List.length_set, Nat.le_refl, true_and, List.length_nil, Nat.zero_le]
 all_goals first | exact hB | exact hs _ _ hx | exact hs _ _ hy | exact hs _ _ (ZbJ _) | simp
theorem Zgu (l : List Int) (h : ∀ y ∈ l, I64 y) (i : Int) : I64 (rd l i) := by
 unfold rd
 rw [List.getD_eq_getElem?_getD]
 cases e : l[i.toNat]? with
 | none => exact ⟨by simp, by simp⟩
 | some y => simpa using h y (List.mem_of_getElem? e)
theorem Zd0 (l : List Int) (hl : l.length ≤ 1048576) (hw : ∀ y ∈ l, I64 y) (kd a x y : Int) (r : List Int) (t : Int) (q : Bool) (h : Do.f l kd a x y = some (r, t, q)) : I64 t ∧ (kd = 3 → t = 0 ∨ t = 1) := by
 have hr := Zgu l hw a
 have hz := ZbJ (rd l a + x)
 have h : Do.F l kd a x y = (r, t, q) := Option.some.inj h
 unfold Do.F at h
 have z0 : I64 0 := Gd
 have z1 : I64 1 := Gd
 repeat' split at h
 all_goals (simp only [Prod.mk.injEq] at h; obtain ⟨-, rfl, -⟩ := h)
 all_goals first | exact ⟨Gd, fun _ => by omega⟩ | exact ⟨Gd, fun _ => by contradiction⟩
end Go.Proofs.YtgghglocfdcegaaGreat.Xec.Plain
