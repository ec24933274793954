/- Part I of the proof of FnExactCrewStep and FnExactCrewRun (wip/xec, pack.py). No condition. -/
import Derived.Test.YtgghglocfdcegaaGreatKF
namespace Go.Proofs.YtgghglocfdcegaaGreat.Xec
open Go Go.RowKit Go.Proofs.YtgghglocfdcegaaGreat.PFnExactCrewRun Go.Proofs.YtgghglocfdcegaaGreatW.PrintWords
set_option linter.unusedVariables false
set_option linter.unusedSimpArgs false
set_option maxRecDepth 100000
set_option maxHeartbeats 16000000
def Zf1 : Value := .tuple #[.agg #[.int .i64 0, .int .i64 0, .slice none 0 0, .slice none 0 0, .int .i64 0], .bool false]
theorem Zbt.zero (wh sz ck pick : Int) (A2 : Option Addr) (n2 c2 : Nat) (A3 : Option Addr) (n3 c3 : Nat) (w : World)
 (HA : ∀ w', Below w.heap.size w w' → Calls Tryz.prog 50 #[crV wh sz A2 n2 c2 A3 n3 c3 ck] w' fun e w2 => ∃ v, e = .returned v ∧ (Kd.int .i64).R 3 w2 w'.heap.size (fun _ => True) v [] ∧ Below w'.heap.size w' w2) :
 Calls Tryz.prog 27 #[crV wh sz A2 n2 c2 A3 n3 c3 ck, .int .i64 pick] w fun e w' => e = .returned Zf1 ∧ Below w.heap.size w w' := by
 obtain ⟨ab, hab⟩ : ∃ ab : List Int, ab = [] := ⟨_, rfl⟩
 rw [← hab] at HA
 obtain ⟨O, hO⟩ : ∃ O, O = std := ⟨_, rfl⟩
 have eqt : ∀ x y : Int, O.eq x y = true → x = y := fun x y h => by
  rw [hO] at h
  exact beq_iff_eq.1 h
 have teq : ∀ x y : Int, x = y → O.eq x y = true := fun x y h => by
  rw [hO]
  exact beq_iff_eq.2 h
 have eqf : ∀ x y : Int, O.eq x y = false → x ≠ y := fun x y h he => fls (teq x y he) h
 have hadd : ∀ x y : Int, O.add x y = wrap64 (x + y) := fun x y => by
  rw [hO]
  rfl
 have nott : ∀ x : Bool, O.not x = true → x = false := fun x h => by
  rw [hO] at h
  cases x
  ·rfl
  ·cases h
 have notf : ∀ x : Bool, O.not x = false → x = true := fun x h => by
  rw [hO] at h
  cases x
  ·cases h
  ·rfl
 refine ZaD (X := mkXR O [(51, Zal.g)] [] []) (d1 := fun _ => 0) Tryz.func27 rfl (by kernel_rfl) hm (Zaw hO (all_cons Zal.fn ZW) Zap fun r => Zax rfl) [.agg [.int wh, .int sz, .slc A2 n2 c2, .slc A3 n3 c3, .int ck], .int pick] 8 900 (Nat.le_of_ble_eq_true rfl) ?_
 generalize hQ : Owes _ _ _ _ _ _ = Q
 cbv
 subst hQ
 refine ZaZ hm rfl rfl rfl ⟨_, Tryz.func50, rfl, rfl⟩ rfl fun d w1 hr => ⟨_, HA w1 (hr.upd.below fun k ⟨i, hi, _⟩ => by omega), ?_⟩
 rintro e1 w2 ⟨v, rfl, hv, hb⟩
 have hA1 := Kd.R_base hv
 have hA2 := Kd.R_lt hv
 obtain ⟨A, cA, rfl, hcA, hC⟩ := Kd.R_reads hv
 have hb1 : Below w.heap.size w w2 := below_step (hr.upd.below fun k ⟨i, hi, _⟩ => by omega) hb
 have q0 := hr.lt (i := 0) (Nat.zero_lt_succ _)
 have q1 := hr.lt (i := 1) (Nat.succ_lt_succ (Nat.zero_lt_succ _))
 have p0 := hr.new 0 (Nat.le_refl _) (Nat.zero_lt_succ _)
 have p1 := hr.new 1 (Nat.zero_le _) (Nat.succ_lt_succ (Nat.zero_lt_succ _))
 have hr2 := (hr.below hb).reroot.rows (rs' := [rowI A cA ab]) (by intro cs hcs; rcases List.mem_cons.1 hcs with rfl | hcs; · rfl
                                                                   rcases List.mem_cons.1 hcs with rfl | hcs; · rfl
                                                                   cases hcs)
 have hX1 : CxOk Tryz.prog (mkXR O [(51, Zal.g)] [] [rowI A cA ab]) d 2 w2 := Zaw hO (all_cons Zal.fn ZW) Zap (Zbf hC (by
  rintro a rfl ⟨i, hi, he⟩
  have := hA1 a.block rfl
  match i, hi, he with
  | 0, _, he => omega
  | 1, _, he => omega))
 refine ⟨_, _, mkXR O [(51, Zal.g)] [] [rowI A cA ab], d, 2, 900, St.of 8 135 [(1, .v (.int pick)), (2, .ptr 0 0), (4, .ptr 1 0), (5, .v (.bl false)), (15, .v (.sl 0))] _, rfl, rfl, hX1, fun a' h => h.carry rfl (by repeat (first | exact trivial | refine ⟨⟨rfl, rfl, trivial⟩, ?_⟩)) rfl, hr2, ?_⟩
 generalize hQ : Owes _ _ _ _ _ _ = Q
 have e6 : (rowI A cA ab) = { a := A, g := (A.getD ⟨0, 0, none⟩).block, p := (A.getD ⟨0, 0, none⟩).off, n := ab.length, c := cA, sz := 1, get := fun i => [.int (rd ab i)] } := rfl
 rw [e6]
 have hz : ab.length = 0 := by rw [hab]; rfl
 rw [hz]
 generalize rd ab = rdA
 unfold Zal.g
 generalize Zal.F = fM
 cbv
 refine ⟨fun _ => ?_, fun h => absurd (teq ((0 : Nat) : Int) 0 rfl) (by rw [show O.eq ((0 : Nat) : Int) 0 = false from h]; simp)⟩
 cbv
 subst hQ
 refine Zav hX1 rfl fun d7 w7 hr7 => ⟨rfl, Zar hb1 hr7.upd ?_ hb1.size⟩
 rintro q ⟨i, hi, rfl⟩
 match i, hi with
 | 0, _ => exact p0
 | 1, _ => exact p1
theorem Zbn.zero (wh sz ck pick : Int) (A2 : Option Addr) (n2 c2 : Nat) (A3 : Option Addr) (n3 c3 : Nat) (w : World) (ab : List Int) (ok : Bool)
 (HA : ∀ w', Below w.heap.size w w' → Calls Tryz.prog 19 #[crV wh sz A2 n2 c2 A3 n3 c3 ck] w' fun e w2 => ∃ v, e = .returned v ∧ (Kd.int .i64).R 3 w2 w'.heap.size (fun _ => True) v ab ∧ Below w'.heap.size w' w2)
 (HK : ∀ w', Below w.heap.size w w' → Calls Tryz.prog 20 #[crV wh sz A2 n2 c2 A3 n3 c3 ck] w' fun e w2 => e = .returned (.bool ok) ∧ Below w'.heap.size w' w2) (hno : ok = false ∨ ab = []) :
 Calls Tryz.prog 6 #[crV wh sz A2 n2 c2 A3 n3 c3 ck, .int .i64 pick] w fun e w' => e = .returned Zf1 ∧ Below w.heap.size w w' := by
 obtain ⟨O, hO⟩ : ∃ O, O = std := ⟨_, rfl⟩
 have eqt : ∀ x y : Int, O.eq x y = true → x = y := fun x y h => by
  rw [hO] at h
  exact beq_iff_eq.1 h
 have teq : ∀ x y : Int, x = y → O.eq x y = true := fun x y h => by
  rw [hO]
  exact beq_iff_eq.2 h
 have eqf : ∀ x y : Int, O.eq x y = false → x ≠ y := fun x y h he => fls (teq x y he) h
 have hadd : ∀ x y : Int, O.add x y = wrap64 (x + y) := fun x y => by
  rw [hO]
  rfl
 have ltt : ∀ x y : Int, O.lt x y = true → x < y := fun x y h => by
  rw [hO] at h
  exact of_decide_eq_true h
 have ltf : ∀ x y : Int, O.lt x y = false → ¬ x < y := fun x y h => by
  rw [hO] at h
  exact of_decide_eq_false h
 have nott : ∀ x : Bool, O.not x = true → x = false := fun x h => by
  rw [hO] at h
  cases x
  ·rfl
  ·cases h
 have notf : ∀ x : Bool, O.not x = false → x = true := fun x h => by
  rw [hO] at h
  cases x
  ·cases h
  ·rfl
 refine ZaD (X := mkXR O [(21, Zaj.g)] [] []) (d1 := fun _ => 0) Tryz.func6 rfl (by kernel_rfl) hm (Zaw hO (all_cons Zaj.fn ZW) Zap fun r => Zax rfl) [.agg [.int wh, .int sz, .slc A2 n2 c2, .slc A3 n3 c3, .int ck], .int pick] 7 900 (Nat.le_of_ble_eq_true rfl) ?_
 generalize hQ : Owes _ _ _ _ _ _ = Q
 cbv
 subst hQ
 refine ZaZ hm rfl rfl rfl ⟨_, Tryz.func19, rfl, rfl⟩ rfl fun d w1 hr => ⟨_, HA w1 (hr.upd.below fun k ⟨i, hi, _⟩ => by omega), ?_⟩
 rintro e1 w2 ⟨v, rfl, hv, hb⟩
 have hA1 := Kd.R_base hv
 have hA2 := Kd.R_lt hv
 obtain ⟨A, cA, rfl, hcA, hC⟩ := Kd.R_reads hv
 have hb1 : Below w.heap.size w w2 := below_step (hr.upd.below fun k ⟨i, hi, _⟩ => by omega) hb
 have q0 := hr.lt (i := 0) (Nat.zero_lt_succ _)
 have q1 := hr.lt (i := 1) (Nat.succ_lt_succ (Nat.zero_lt_succ _))
 have p0 := hr.new 0 (Nat.le_refl _) (Nat.zero_lt_succ _)
 have p1 := hr.new 1 (Nat.zero_le _) (Nat.succ_lt_succ (Nat.zero_lt_succ _))
 have hr2 := (hr.below hb).reroot.rows (rs' := [rowI A cA ab]) (by intro cs hcs; rcases List.mem_cons.1 hcs with rfl | hcs; · rfl
                                                                   rcases List.mem_cons.1 hcs with rfl | hcs; · rfl
                                                                   cases hcs)
 have hX1 : CxOk Tryz.prog (mkXR O [(21, Zaj.g)] [] [rowI A cA ab]) d 2 w2 := Zaw hO (all_cons Zaj.fn ZW) Zap (Zbf hC (by
  rintro a rfl ⟨i, hi, he⟩
  have := hA1 a.block rfl
  match i, hi, he with
  | 0, _, he => omega
  | 1, _, he => omega))
 refine ⟨_, _, mkXR O [(21, Zaj.g)] [] [rowI A cA ab], d, 2, 900, St.of 7 93 [(1, .v (.int pick)), (2, .ptr 0 0), (4, .ptr 1 0), (5, .v (.bl false)), (14, .v (.sl 0))] _, rfl, rfl, hX1, fun a' h => h.carry rfl (by repeat (first | exact trivial | refine ⟨⟨rfl, rfl, trivial⟩, ?_⟩)) rfl, hr2, ?_⟩
 generalize hQ : Owes _ _ _ _ _ _ = Q
 have e6 : (rowI A cA ab) = { a := A, g := (A.getD ⟨0, 0, none⟩).block, p := (A.getD ⟨0, 0, none⟩).off, n := ab.length, c := cA, sz := 1, get := fun i => [.int (rd ab i)] } := rfl
 rw [e6]
 generalize hn : ab.length = nA
 generalize hrd : rd ab = rdA
 unfold Zaj.g
 generalize hfM : Zaj.F = fM
 cbv
 subst hQ hfM hrd hn
 refine Zaf hm hX1 rfl rfl rfl ⟨_, Tryz.func20, rfl, rfl⟩ rfl fun dk wk hrk => ⟨_, HK wk (Zar hb1 hrk.upd ?_ hb1.size), ?_⟩
 ·rintro q ⟨i, hi, rfl⟩
  match i, hi with
  | 0, _ => exact p0
  | 1, _ => exact p1
 rintro ek wk2 ⟨rfl, hbk⟩
 have hXk := hX1.reroot (hrk.below hbk)
 have hrk2 := hrk.below hbk
 have hno' : ok = true → O.eq (ab.length : Int) 0 = true := fun h => by
  rcases hno with h' | h'
  ·rw [h] at h'
   cases h'
  ·exact teq _ _ (by rw [h']; rfl)
 refine ⟨.bool ok, 900, _, rfl, hbk, rfl, ?_⟩
 generalize hQ : Owes _ _ _ _ _ _ = Q
 rw [e6]
 generalize hn : ab.length = nA at hno' ⊢
 generalize hrd : rd ab = rdA
 unfold Zaj.g
 generalize hfM : Zaj.F = fM
 cbv
 repeat' (apply And.intro <;> (try intro) <;> (try cbv))
 all_goals (try exact absurd (hno' (notf ok (by assumption))) (by rw [show O.eq (nA : Int) 0 = false by assumption]; simp))
 all_goals subst hQ
 all_goals
  refine Zav hXk rfl fun d7 w7 hr7 => ⟨rfl, Zar hb1 (hrk2.comp hr7).upd ?_ hb1.size⟩
  rintro q ⟨i, hi, rfl⟩
  match i, hi with
  | 0, _ => exact p0
  | 1, _ => exact p1
structure Cw where
 wh : Int
 sz : Int
 m : List Int
 l : List S52
 ck : Int
def cwV (c : Cw) (v2 v3 : Value) : Value := .agg #[.int .i64 c.wh, .int .i64 c.sz, v2, v3, .int .i64 c.ck]
def Made (w w' : World) (c : Cw) (v2 v3 : Value) : Prop := (Kd.int .i64).R 3 w' w.heap.size (fun _ => True) v2 c.m ∧ Kd.S k52 52 w' w.heap.size (fun q => some q ≠ v2.ownBlock) v3 c.l
def Zf2 : Value := .agg #[.int .i64 0, .int .i64 0, .slice none 0 0, .slice none 0 0, .int .i64 0]
def Zdd (w : World) (r : Option Cw) (e : Ending) (w' : World) : Prop := Below w.heap.size w w' ∧ match r with
 | none => e = .returned Zf1
 | some c => ∃ v2 v3, e = .returned (.tuple #[cwV c v2 v3, .bool true]) ∧ Made w w' c v2 v3
theorem Zgi {α : Type} {d : Kd α} {e base : Nat} {w w' w2 : World} {ok : Nat → Prop} {v : Value} {xs : List α} (h : Kd.S d e w2 w'.heap.size ok v xs) (hb : base ≤ w'.heap.size) {S : Nat → Prop} (hu : Upd S w2 w) (hS : ∀ k, S k → k < w'.heap.size) : Kd.S d e w base ok v xs :=
 Kd.S_lower (Kd.S_mono (Kd.S_move (Kd.S_bound h) (fun k hk => hu.block k hk.2.2.1 (fun hs => Nat.not_le_of_lt (hS k hs) hk.2.1))) (fun k hk => hk.1)) hb
theorem Made.later {w w' w2 w3 : World} {c : Cw} {v2 v3 : Value} (h : Made w' w2 c v2 v3) (hb : w.heap.size ≤ w'.heap.size) {S : Nat → Prop} (hu : Upd S w2 w3) (hS : ∀ k, S k → k < w'.heap.size) : Made w w3 c v2 v3 := ⟨Zcw h.1 hb hu hS, Zgi h.2 hb hu hS⟩
theorem Zer.step {w : World} {wh sz ck : Int} {r : Rs} {l : List S52} {e : Ending} {w' : World} (h : Zer w wh sz ck r l e w') : Zdd w (if r.ok then some ⟨wh, sz, r.m, l, wrap64 (ck + 1)⟩ else none) e w' := by
 obtain ⟨h1, h2⟩ := h
 refine ⟨h1, ?_⟩
 cases hr : r.ok with
 | false => rw [hr] at h2; exact h2
 | true =>
   rw [hr] at h2
   obtain ⟨v2, v3, e1, e2, e3⟩ := h2
   exact ⟨v2, v3, e1, e2, e3⟩
theorem Made.slices {w w' : World} {c : Cw} {v2 v3 : Value} (h : Made w w' c v2 v3) : ∃ A n k B m j, v2 = .slice A n k ∧ v3 = .slice B m j := by
 obtain ⟨A, n, k, rfl⟩ := R_slice h.1
 obtain ⟨B, j, rfl⟩ := Kd.S_slice h.2
 exact ⟨_, _, _, _, _, _, rfl, rfl⟩
theorem Zc9.go (wh sz ck pick : Int) (A2 : Option Addr) (n2 c2 : Nat) (A3 : Option Addr) (n3 c3 : Nat) (w : World) (ok : Bool) (r : Option Cw)
 (HK : ∀ w', Below w.heap.size w w' → Calls Tryz.prog 26 #[crV wh sz A2 n2 c2 A3 n3 c3 ck] w' fun e w2 => e = .returned (.bool ok) ∧ Below w'.heap.size w' w2)
 (HS : ok = true → ∀ w', Below w.heap.size w w' → Calls Tryz.prog 27 #[crV wh sz A2 n2 c2 A3 n3 c3 ck, .int .i64 pick] w' (Zdd w' r)) :
 Calls Tryz.prog 8 #[crV wh sz A2 n2 c2 A3 n3 c3 ck, .int .i64 pick] w (Zdd w (if ok then r else none)) := by
 obtain ⟨O, hO⟩ : ∃ O, O = std := ⟨_, rfl⟩
 have nott : ∀ x : Bool, O.not x = true → x = false := fun x h => by
  rw [hO] at h
  cases x
  ·rfl
  ·cases h
 have notf : ∀ x : Bool, O.not x = false → x = true := fun x h => by
  rw [hO] at h
  cases x
  ·cases h
  ·rfl
 have hX0 : CxOk Tryz.prog (mkXR O [] [] []) (fun _ => 0) 0 w := Zaw hO ZW Zap fun r => Zax rfl
 refine ZaD (X := mkXR O [] [] []) (d1 := fun _ => 0) Tryz.func8 rfl (by kernel_rfl) hm hX0 [.agg [.int wh, .int sz, .slc A2 n2 c2, .slc A3 n3 c3, .int ck], .int pick] 4 900 (Nat.le_of_ble_eq_true rfl) ?_
 generalize hQ : Owes _ _ _ _ _ _ = Q
 cbv
 subst hQ
 have bel : ∀ {d w'}, Upd (Bx d 0) w w' → Below w.heap.size w w' := fun hu => hu.below fun k ⟨i, hi, _⟩ => by omega
 refine Zaf hm hX0 rfl rfl rfl ⟨_, Tryz.func26, rfl, rfl⟩ rfl fun d1 w1 hr1 => ⟨_, HK w1 (bel hr1.upd), ?_⟩
 rintro e1 w2 ⟨rfl, hb⟩
 have hr2 := hr1.below hb
 have hX2 := hX0.reroot hr2
 refine ⟨.bool ok, 900, _, rfl, hb, rfl, ?_⟩
 generalize hQ : Owes _ _ _ _ _ _ = Q
 cbv
 refine ⟨fun h => ?_, fun h => ?_⟩
 ·cbv
  subst hQ
  refine Zav hX2 rfl fun d3 w3 hr3 => ⟨bel (hr2.comp hr3).upd, ?_⟩
  rw [nott ok h]
  exact rfl
 have hok := notf ok h
 cbv
 subst hQ
 subst hok
 refine Zaf hm hX2 rfl rfl rfl ⟨_, Tryz.func27, rfl, rfl⟩ rfl fun d3 w3 hr3 => ⟨_, HS rfl w3 (bel (hr2.comp hr3).upd), ?_⟩
 rintro e3 w4 ⟨hb4, h4⟩
 have hr4 := (hr2.comp hr3).below hb4
 have hX4 := hX2.reroot (hr3.below hb4)
 have hlt : ∀ q, Bx d3 2 q → q < w3.heap.size := by
  rintro q ⟨i, hi, rfl⟩
  exact hr3.lt hi
 cases r with
 | none =>
   obtain rfl := h4
   refine ⟨.tup [.agg [.int 0, .int 0, .slc none 0 0, .slc none 0 0, .int 0], .bool false], 900, _, rfl, hb4, rfl, ?_⟩
   generalize hQ : Owes _ _ _ _ _ _ = Q
   cbv
   subst hQ
   exact Zav hX4 rfl fun d5 w5 hr5 => ⟨bel (hr4.comp hr5).upd, rfl⟩
 | some c =>
   obtain ⟨v2, v3, rfl, hM⟩ := h4
   obtain ⟨A, n, k, B, m, j, rfl, rfl⟩ := hM.slices
   refine ⟨.tup [.agg [.int c.wh, .int c.sz, .slc A n k, .slc B m j, .int c.ck], .bool true], 900, _, rfl, hb4, rfl, ?_⟩
   generalize hQ : Owes _ _ _ _ _ _ = Q
   cbv
   subst hQ
   exact Zav hX4 rfl fun d5 w5 hr5 => ⟨bel (hr4.comp hr5).upd, _, _, rfl, hM.later (bel (hr2.comp hr3).upd).size hr5.upd hlt⟩
def runF (F : Cw → Int → Option Cw) : List Int → Cw → Cw
 | [], c => c
 | p :: l, c => match F c p with
   | none => c
   | some c' => runF F l c'
theorem ZaX {P : Program} {Qf : Exit → Act → World → Prop} {c : Code} {K : List KI} (Inv : Nat → Act → World → Prop) (h0 : ∀ a w, ¬ Inv 0 a w) (h : ∀ k a w, (∀ a w, Inv k a w → wpK P Qf (.mk k c :: K) .normal a w) → Inv (k + 1) a w → wpK P Qf (.code c :: .mk k c :: K) .normal a w) :
 ∀ k a w, Inv k a w → wpK P Qf (.mk k c :: K) .normal a w
 | 0, a, w, hI => absurd hI (h0 a w)
 | k + 1, a, w, hI => ZdN (h k a w (fun a w hI => ZaX Inv h0 h k a w hI) hI)
theorem ZaF {P : Program} {X : Cx} {d1 : Nat → Nat} {n1 : Nat} {w1 : World} {Qf : Exit → Act → World → Prop} (hP : ∀ c a w dst v, Qf (.panic c) (a.put dst v) w → Qf (.panic c) a w) (hm : P.follows .mixedOrders = true) (hX : CxOk P X d1 n1 w1) (n : Nat) (K : List KI) (st : St) (d : Nat → Nat) (a : Act) (w : World) (hK : KOk K) (hR : Rel X.R d st a) (hr : Zak X.R d1 n1 w1 d st.b w) (h : (seg X n K st).holds (Owes P X d1 n1 w1 Qf)) : wpK P Qf K .normal a w :=
 ZaS hP hm hX (fun l hl hk d a w => hl hk d a w) n K st d a w hK hR hr h
def Zbe (w w' : World) (d : Nat → Nat) (c : Cw) (v2 v3 : Value) : Prop := (Kd.int .i64).R 3 w' w.heap.size (fun q => ∀ i, i < 3 → q ≠ d i) v2 c.m ∧ Kd.S k52 52 w' w.heap.size (fun q => some q ≠ v2.ownBlock ∧ ∀ i, i < 3 → q ≠ d i) v3 c.l
theorem Zbe.made {w w' : World} {d : Nat → Nat} {c : Cw} {v2 v3 : Value} (h : Zbe w w' d c v2 v3) : Made w w' c v2 v3 := ⟨Kd.R_mono h.1 fun _ _ => trivial, Kd.S_mono h.2 fun _ h => h.1⟩
theorem Zbe.step {w w' w2 : World} {d : Nat → Nat} {c : Cw} {v2 v3 : Value} (h : Zbe w w' d c v2 v3) (hu : Upd (Bx d 3) w' w2) : Zbe w w2 d c v2 v3 :=
 ⟨Kd.R_step h.1 (fun q hq hlt => hu.block q hlt (fun ⟨i, hi, he⟩ => hq i hi he)), Kd.S_step h.2 (fun q hq hlt => hu.block q hlt (fun ⟨i, hi, he⟩ => hq.2 i hi he))⟩
theorem Made.apart {w w' w2 : World} {d : Nat → Nat} {c : Cw} {v2 v3 : Value} (h : Made w' w2 c v2 v3) (hw : w.heap.size ≤ w'.heap.size) (hd : ∀ i, i < 3 → d i < w'.heap.size ∨ w2.heap.size ≤ d i) : Zbe w w2 d c v2 v3 :=
 ⟨Kd.R_lower (Kd.R_mono (Kd.R_bound h.1) fun q hq i hi he => by have := hd i hi; have := hq.2.1; have := hq.2.2.1; omega) hw, Kd.S_lower (Kd.S_mono (Kd.S_bound h.2) fun q hq => ⟨hq.1, fun i hi he => by have := hd i hi; have := hq.2.1; have := hq.2.2.1; omega⟩) hw⟩
theorem Zbe.congr {w w' : World} {d d' : Nat → Nat} {c : Cw} {v2 v3 : Value} (h : Zbe w w' d c v2 v3) (hd : ∀ i, i < 3 → d' i = d i) : Zbe w w' d' c v2 v3 :=
 ⟨Kd.R_mono h.1 fun q hq i hi => by rw [hd i hi]; exact hq i hi, Kd.S_mono h.2 fun q hq => ⟨hq.1, fun i hi => by rw [hd i hi]; exact hq.2 i hi⟩⟩
theorem Zdk.go (wh sz ck : Int) (A2 : Option Addr) (c2 : Nat) (l2 : List Int) (A3 : Option Addr) (c3 : Nat) (l3 : List S52) (Ap : Option Addr) (cp : Nat) (ps : List Int) (w : World) (ok : Bool) (F : Cw → Int → Option Cw) (Good : Cw → Prop) (PI : Int → Prop) (hPI : ∀ i : Nat, i < ps.length → PI (rd ps i))
 (hp : (Kd.int .i64).C w Ap ps.length ps)
 (HK : ∀ w', Below w.heap.size w w' → Calls Tryz.prog 20 #[crV wh sz A2 l2.length c2 A3 l3.length c3 ck] w' fun e w2 => e = .returned (.bool ok) ∧ Below w'.heap.size w' w2)
 (HC : ok = true → ∀ w', Below w.heap.size w w' → Calls Tryz.prog 22 #[crV wh sz A2 l2.length c2 A3 l3.length c3 ck] w' fun e w2 => ∃ v2 v3, e = .returned (cwV ⟨wh, sz, l2, l3, ck⟩ v2 v3) ∧ Made w' w2 ⟨wh, sz, l2, l3, ck⟩ v2 v3 ∧ Below w'.heap.size w' w2)
 (HS : ∀ (c : Cw) (p : Int) (B2 : Option Addr) (k2 : Nat) (B3 : Option Addr) (k3 : Nat) (w' : World), Good c → PI p → (Kd.int .i64).C w' B2 c.m.length c.m → c.m.length ≤ k2 → k52.C w' B3 c.l.length c.l → c.l.length ≤ k3 → Calls Tryz.prog 6 #[crV c.wh c.sz B2 c.m.length k2 B3 c.l.length k3 c.ck, .int .i64 p] w' (Zdd w' (F c p)))
 (hG0 : ok = true → Good ⟨wh, sz, l2, l3, ck⟩) (hG : ∀ c p c', Good c → PI p → F c p = some c' → Good c') :
 Calls Tryz.prog 12 #[crV wh sz A2 l2.length c2 A3 l3.length c3 ck, .slice Ap ps.length cp] w fun e w' => Below w.heap.size w w' ∧ if ok then ∃ v2 v3, e = .returned (cwV (runF F ps ⟨wh, sz, l2, l3, ck⟩) v2 v3) ∧ Made w w' (runF F ps ⟨wh, sz, l2, l3, ck⟩) v2 v3 else e = .returned Zf2 := by
 obtain ⟨O, hO⟩ : ∃ O, O = std := ⟨_, rfl⟩
 have nott : ∀ x : Bool, O.not x = true → x = false := fun x h => by
  rw [hO] at h
  cases x
  ·rfl
  ·cases h
 have notf : ∀ x : Bool, O.not x = false → x = true := fun x h => by
  rw [hO] at h
  cases x
  ·cases h
  ·rfl
 have hlen := hp.2.1
 have hlt_ : ∀ a, Ap = some a → 0 < ps.length → a.block < w.heap.size := fun a ha hpos => by
  obtain ⟨ad, cs, e, hl, hk, hc⟩ := Kd.C_get hp 0 0 (Int.le_refl _) (by omega)
  rw [ha] at e
  injection e with e
  subst e
  obtain rfl : cs = [Value.int .i64 (ps.getD 0 0)] := hk
  have := World.block_lt_of_cell? w _ (hc 0 _ rfl)
  simpa [Addr.add] using this
 have rowsP : ∀ (S : Nat → Prop) (w' : World), Below w.heap.size w w' → (∀ q, S q → w.heap.size ≤ q) → ∀ i, ZaV (ZZ [rowI Ap cp ps]) S w' i := fun S w' hb hS => by
  by_cases h0 : ps.length = 0
  ·intro i _ q hq
   match i with
   | 0 => exact absurd hq (by show ¬ q < ps.length; omega)
   | i + 1 => exact absurd hq (Nat.not_lt_zero _)
  ·exact Zbf (Kd.C_below hp hb) (fun a ha hs => by have := hS _ hs; have := hlt_ a ha (by omega); omega)
 have hX0 : CxOk Tryz.prog (mkXR O [] [] [rowI Ap cp ps]) (fun _ => 0) 0 w := Zaw hO ZW Zap (rowsP _ _ (Below.refl _ _) fun q ⟨i, hi, _⟩ => by omega)
 refine ZaD (X := mkXR O [] [] [rowI Ap cp ps]) (d1 := fun _ => 0) Tryz.func12 rfl (by kernel_rfl) hm hX0 [.agg [.int wh, .int sz, .slc A2 l2.length c2, .slc A3 l3.length c3, .int ck], .sl 0] 6 900 (Nat.le_of_ble_eq_true rfl) ?_
 have e6 : (rowI Ap cp ps) = { a := Ap, g := (Ap.getD ⟨0, 0, none⟩).block, p := (Ap.getD ⟨0, 0, none⟩).off, n := ps.length, c := cp, sz := 1, get := fun i => [.int (rd ps i)] } := rfl
 have bel : ∀ {d w'}, Upd (Bx d 0) w w' → Below w.heap.size w w' := fun hu => hu.below fun k ⟨i, hi, _⟩ => by omega
 generalize hQ : Owes _ _ _ _ _ _ = Q
 rw [e6]
 generalize hn : ps.length = nP
 generalize hrd : rd ps = rdP
 generalize hl2 : l2.length = n2
 generalize hl3 : l3.length = n3
 cbv
 subst hQ hn hrd hl2 hl3
 refine Zaf hm hX0 rfl rfl rfl ⟨_, Tryz.func20, rfl, rfl⟩ rfl fun d1 w1 hr1 => ⟨_, HK w1 (bel hr1.upd), ?_⟩
 rintro e1 w2 ⟨rfl, hb⟩
 have hr2 := hr1.below hb
 have hX2 := hX0.reroot hr2
 refine ⟨.bool ok, 900, _, rfl, hb, rfl, ?_⟩
 generalize hQ : Owes _ _ _ _ _ _ = Q
 rw [e6]
 generalize hn : ps.length = nP
 generalize hrd : rd ps = rdP
 generalize hl2 : l2.length = n2
 generalize hl3 : l3.length = n3
 cbv
 refine ⟨fun h => ?_, fun h => ?_⟩
 ·cbv
  subst hQ hn hrd hl2 hl3
  refine Zav hX2 rfl fun d3 w3 hr3 => ⟨bel (hr2.comp hr3).upd, ?_⟩
  rw [nott ok h]
  exact rfl
 have hok := notf ok h
 cbv
 subst hQ hn hrd hl2 hl3
 subst hok
 generalize hrr : runF F ps ⟨wh, sz, l2, l3, ck⟩ = rr
 refine Zaf hm hX2 rfl rfl rfl ⟨_, Tryz.func22, rfl, rfl⟩ rfl fun d3 w3 hr3 => ⟨_, HC rfl w3 (bel (hr2.comp hr3).upd), ?_⟩
 rintro e3 w4 ⟨v2, v3, rfl, hM, hb4⟩
 have hr4 := (hr2.comp hr3).below hb4
 have hX4 := hX2.reroot (hr3.below hb4)
 have s0 : d3 0 < w3.heap.size := hr3.lt (Nat.zero_lt_succ _)
 have s1 : d3 1 < w3.heap.size := hr3.lt (Nat.succ_lt_succ (Nat.zero_lt_succ _))
 have n0_ : w.heap.size ≤ d3 0 := hr4.new 0 (Nat.le_refl _) (Nat.zero_lt_succ _)
 have n1_ : w.heap.size ≤ d3 1 := hr4.new 1 (Nat.zero_le _) (Nat.succ_lt_succ (Nat.zero_lt_succ _))
 obtain ⟨A, n, k, B, m, j, rfl, rfl⟩ := hM.slices
 have hw3 : w.heap.size ≤ w3.heap.size := (bel (hr2.comp hr3).upd).size
 refine ⟨.agg [.int wh, .int sz, .slc A n k, .slc B m j, .int ck], 900, _, rfl, hb4, rfl, ?_⟩
 generalize hQ : Owes _ _ _ _ _ _ = Q
 rw [e6]
 generalize hn : ps.length = nP
 generalize hrd : rd ps = rdP
 generalize hl2 : l2.length = n2
 generalize hl3 : l3.length = n3
 cbv
 subst hQ hn hrd hl2 hl3
 intro hk d5 a5 w5 hR5 hr5
 have hb5 : Below w.heap.size w w5 := bel (hr4.comp hr5).upd
 refine ZaT (ps.length + 1) ?_
 refine ZaX (fun kk a w' => ∃ (i : Nat) (c : Cw) (B2 : Option Addr) (m2 k2 : Nat) (B3 : Option Addr) (m3 k3 : Nat) (d : Nat → Nat), i ≤ ps.length ∧ ps.length - i < kk ∧ Good c ∧ Below w.heap.size w w' ∧ (∀ q, q < 3 → w.heap.size ≤ d q) ∧ Rel (ZZ [rowI Ap cp ps]) d (St.of 6 34 [(2, .ptr 0 0), (4, .ptr 1 0), (5, .ptr 2 0), (16, .v (.sl 0)), (17, .v (.int (ps.length : Nat))), (18, .v (.int (i : Nat)))] [[.int wh, .int sz, .slc A2 l2.length c2, .slc A3 l3.length c3, .int ck], [.lit 0, .lit 0, .slc none 0 0, .slc none 0 0, .lit 0], [.int c.wh, .int c.sz, .slc B2 m2 k2, .slc B3 m3 k3, .int c.ck]]) a ∧ Zak (ZZ [rowI Ap cp ps]) d 3 w' d [[.int wh, .int sz, .slc A2 l2.length c2, .slc A3 l3.length c3, .int ck], [.lit 0, .lit 0, .slc none 0 0, .slc none 0 0, .lit 0], [.int c.wh, .int c.sz, .slc B2 m2 k2, .slc B3 m3 k3, .int c.ck]] w' ∧ Zbe w w' d c (.slice B2 m2 k2) (.slice B3 m3 k3) ∧ runF F (ps.drop i) c = rr) (fun a w' ⟨i, c, B2, m2, k2, B3, m3, k3, d, h1, h2, _⟩ => by omega) (fun kk a w' IH hI => ?_) _ _ _ ?_
 rotate_left
 ·refine ⟨0, ⟨wh, sz, l2, l3, ck⟩, A, n, k, B, m, j, d5, Nat.zero_le _, by omega, hG0 rfl, hb5, fun q hq => ?_, hR5.weaken rfl ⟨rfl, rfl, rfl, rfl, rfl, rfl, trivial⟩ (ZaJ _ _ rfl), hr5.reroot, ?_, hrr⟩
  ·exact (hr4.comp hr5).new q (Nat.zero_le _) hq
  ·have o0 : d5 0 = d3 0 := hr5.old 0 (Nat.zero_lt_succ _)
   have o1 : d5 1 = d3 1 := hr5.old 1 (Nat.succ_lt_succ (Nat.zero_lt_succ _))
   refine Zbe.step (Made.apart hM hw3 (d := d5) fun i hi => ?_) (hr5.upd.mono ?_)
   ·match i, hi with
    | 0, _ => exact .inl (by omega)
    | 1, _ => exact .inl (by omega)
    | 2, _ => exact .inr (hr5.new 2 (Nat.le_refl _) (Nat.succ_lt_succ (Nat.succ_lt_succ (Nat.zero_lt_succ _))))
   ·rintro q ⟨i, hi, rfl⟩
    match i, hi with
    | 0, _ => exact ⟨0, by decide, o0.symm⟩
    | 1, _ => exact ⟨1, by decide, o1.symm⟩
 obtain ⟨i, c, B2, m2, k2, B3, m3, k3, d, hi, hkk, hGc, hbw, hdw, hRel, hRe, hAp, hrun⟩ := hI
 have hXl : CxOk Tryz.prog (mkXR O [] [] [rowI Ap cp ps]) d 3 w' := Zaw hO ZW Zap (rowsP _ _ hbw fun q ⟨i, hi, he⟩ => he ▸ hdw i hi)
 refine ZaF Zag hm hXl 900 _ _ d a w' ⟨hk.1, hk.1, hk.2⟩ hRel hRe ?_
 have belL : ∀ {d' w2}, (∀ i, i < 3 → d' i = d i) → Upd (Bx d' 3) w' w2 → Below w.heap.size w w2 := fun hd hu => Zar hbw hu (fun q ⟨i, hi, he⟩ => by rw [he, hd i hi]; exact hdw i hi) hbw.size
 obtain rfl : m2 = c.m.length := (Kd.R_reads' hAp.1).1
 obtain rfl : m3 = c.l.length := (Kd.S_reads' hAp.2).1
 generalize hQ : Owes _ _ _ _ _ _ = Q
 rw [e6]
 generalize hn : ps.length = nP
 generalize hrd : rd ps = rdP
 generalize hl2 : l2.length = n2
 generalize hl3 : l3.length = n3
 generalize hq2 : c.m.length = q2
 generalize hq3 : c.l.length = q3
 cbv
 refine ⟨fun h => ?_, fun h => ?_⟩
 ·have hlt : i < ps.length := by
   rw [hO] at h
   have := of_decide_eq_true (show decide ((i : Int) < (nP : Int)) = true from h)
   omega
  cbv
  refine ⟨?_, ?_⟩
  ·rw [hO]
   show (decide (0 ≤ (i : Int)) && decide ((i : Int) < (nP : Int))) = true
   rw [Bool.and_eq_true, decide_eq_true_eq, decide_eq_true_eq]
   omega
  (try cbv)
  subst hQ hn hrd hl2 hl3 hq2 hq3
  have hdr : ps.drop i = rd ps i :: ps.drop (i + 1) := by
   rw [List.drop_eq_getElem_cons hlt]
   congr 1
   show _ = ps.getD i 0
   rw [List.getD_eq_getElem?_getD, List.getElem?_eq_getElem hlt]
   rfl
  rw [hdr] at hrun
  refine Zaf hm hXl rfl rfl rfl ⟨_, Tryz.func6, rfl, rfl⟩ rfl fun d6 w6 hr6 => ⟨_, HS c (rd ps i) B2 k2 B3 k3 w6 hGc (hPI i hlt) (Kd.R_reads' (hAp.step hr6.upd).1).2.2 (Kd.R_reads' (hAp.step hr6.upd).1).2.1 (Kd.S_reads' (hAp.step hr6.upd).2).2.2 (Kd.S_reads' (hAp.step hr6.upd).2).2.1, ?_⟩
  rintro e7 w7 ⟨hb7, h7⟩
  have hr7 := hr6.below hb7
  have hX7 := hXl.reroot hr7
  simp only [runF] at hrun
  cases hF : F c (rd ps i) with
  | none =>
    rw [hF] at h7 hrun
    obtain rfl := h7
    subst hrun
    refine ⟨.tup [.agg [.int 0, .int 0, .slc none 0 0, .slc none 0 0, .int 0], .bool false], 900, _, rfl, hb7, rfl, ?_⟩
    generalize hQ : Owes _ _ _ _ _ _ = Q
    rw [e6]
    generalize hn : ps.length = nP
    generalize hrd : rd ps = rdP
    generalize hl2 : l2.length = n2
    generalize hl3 : l3.length = n3
    generalize hq2 : c.m.length = q2
    generalize hq3 : c.l.length = q3
    cbv
    refine ⟨fun h => ?_, fun h => absurd (notf _ h) (by simp)⟩
    cbv
    subst hQ hn hrd hl2 hl3 hq2 hq3
    refine Zav hX7 rfl fun d8 w8 hr8 => ?_
    have hA8 := hAp.step (hr7.comp hr8).upd
    exact ⟨belL (fun _ _ => rfl) (hr7.comp hr8).upd, _, _, rfl, hA8.made⟩
  | some c' =>
    rw [hF] at h7 hrun
    obtain ⟨v2, v3, rfl, hM⟩ := h7
    obtain ⟨A', n', k', B', m', j', rfl, rfl⟩ := hM.slices
    refine ⟨.tup [.agg [.int c'.wh, .int c'.sz, .slc A' n' k', .slc B' m' j', .int c'.ck], .bool true], 900, _, rfl, hb7, rfl, ?_⟩
    generalize hQ : Owes _ _ _ _ _ _ = Q
    rw [e6]
    generalize hn : ps.length = nP
    generalize hrd : rd ps = rdP
    generalize hl2 : l2.length = n2
    generalize hl3 : l3.length = n3
    generalize hq2 : c.m.length = q2
    generalize hq3 : c.l.length = q3
    cbv
    refine ⟨fun h => absurd (nott _ h) (by simp), fun h => ?_⟩
    cbv
    subst hQ hn hrd hl2 hl3 hq2 hq3
    intro hk8 d8 a8 w8 hR8 hr8
    have o6 : ∀ i, i < 3 → d8 i = d6 i := fun i hi => hr8.old i hi
    refine IH a8 w8 ⟨i + 1, c', A', n', k', B', m', j', d8, hlt, by omega, hG c _ c' hGc (hPI i hlt) hF, belL (fun _ _ => rfl) (hr7.comp hr8).upd, fun q hq => by rw [o6 q hq, hr7.old q hq]; exact hdw q hq, hR8.weaken rfl ⟨rfl, rfl, rfl, rfl, rfl, congrArg (fun x => Slot.v (.int x)) ?_, trivial⟩ (ZaJ _ _ rfl), (Zak.drop (b := [_, _, _]) (r := [_]) hr8 (Nat.le_refl 3)).reroot (st := ⟨0, .nil, [_, _, _]⟩), Zbe.step (Made.apart hM (Nat.le_trans hbw.size hr6.upd.size) (d := d8) fun i hi => .inl (by rw [o6 i hi]; exact hr6.lt hi)) (hr8.upd.mono ?_), hrun⟩
    ·rw [hO]
     show wrap64 ((i : Int) + 1) = ((i + 1 : Nat) : Int)
     unfold wrap64
     omega
    ·rintro q ⟨i, hi, rfl⟩
     exact ⟨i, hi, (o6 i hi).symm⟩
 ·have hge : i = ps.length := by
   rw [hO] at h
   have := of_decide_eq_false (show decide ((i : Int) < (nP : Int)) = false from h)
   omega
  cbv
  subst hQ hn hrd hl2 hl3 hq2 hq3
  subst hge
  rw [List.drop_length] at hrun
  simp only [runF] at hrun
  subst hrun
  refine Zav hXl rfl fun d8 w8 hr8 => ?_
  exact ⟨belL (fun _ _ => rfl) hr8.upd, _, _, rfl, (hAp.step hr8.upd).made⟩
theorem Zdv.go (wh sz ck : Int) (A2 : Option Addr) (c2 : Nat) (l2 : List Int) (A3 : Option Addr) (c3 : Nat) (l3 : List S52) (Ap : Option Addr) (cp : Nat) (ps : List Int) (w : World) (ok : Bool) (F : Cw → Int → Option Cw) (Good : Cw → Prop) (PI : Int → Prop) (hPI : ∀ i : Nat, i < ps.length → PI (rd ps i))
 (hp : (Kd.int .i64).C w Ap ps.length ps)
 (HK : ∀ w', Below w.heap.size w w' → Calls Tryz.prog 26 #[crV wh sz A2 l2.length c2 A3 l3.length c3 ck] w' fun e w2 => e = .returned (.bool ok) ∧ Below w'.heap.size w' w2)
 (HC : ok = true → ∀ w', Below w.heap.size w w' → Calls Tryz.prog 34 #[crV wh sz A2 l2.length c2 A3 l3.length c3 ck] w' fun e w2 => ∃ v2 v3, e = .returned (cwV ⟨wh, sz, l2, l3, ck⟩ v2 v3) ∧ Made w' w2 ⟨wh, sz, l2, l3, ck⟩ v2 v3 ∧ Below w'.heap.size w' w2)
 (HS : ∀ (c : Cw) (p : Int) (B2 : Option Addr) (k2 : Nat) (B3 : Option Addr) (k3 : Nat) (w' : World), Good c → PI p → (Kd.int .i64).C w' B2 c.m.length c.m → c.m.length ≤ k2 → k52.C w' B3 c.l.length c.l → c.l.length ≤ k3 → Calls Tryz.prog 8 #[crV c.wh c.sz B2 c.m.length k2 B3 c.l.length k3 c.ck, .int .i64 p] w' (Zdd w' (F c p)))
 (hG0 : ok = true → Good ⟨wh, sz, l2, l3, ck⟩) (hG : ∀ c p c', Good c → PI p → F c p = some c' → Good c') :
 Calls Tryz.prog 14 #[crV wh sz A2 l2.length c2 A3 l3.length c3 ck, .slice Ap ps.length cp] w fun e w' => Below w.heap.size w w' ∧ if ok then ∃ v2 v3, e = .returned (cwV (runF F ps ⟨wh, sz, l2, l3, ck⟩) v2 v3) ∧ Made w w' (runF F ps ⟨wh, sz, l2, l3, ck⟩) v2 v3 else e = .returned Zf2 := by
 obtain ⟨O, hO⟩ : ∃ O, O = std := ⟨_, rfl⟩
 have nott : ∀ x : Bool, O.not x = true → x = false := fun x h => by
  rw [hO] at h
  cases x
  ·rfl
  ·cases h
 have notf : ∀ x : Bool, O.not x = false → x = true := fun x h => by
  rw [hO] at h
  cases x
  ·cases h
  ·rfl
 have hlen := hp.2.1
 have hlt_ : ∀ a, Ap = some a → 0 < ps.length → a.block < w.heap.size := fun a ha hpos => by
  obtain ⟨ad, cs, e, hl, hk, hc⟩ := Kd.C_get hp 0 0 (Int.le_refl _) (by omega)
  rw [ha] at e
  injection e with e
  subst e
  obtain rfl : cs = [Value.int .i64 (ps.getD 0 0)] := hk
  have := World.block_lt_of_cell? w _ (hc 0 _ rfl)
  simpa [Addr.add] using this
 have rowsP : ∀ (S : Nat → Prop) (w' : World), Below w.heap.size w w' → (∀ q, S q → w.heap.size ≤ q) → ∀ i, ZaV (ZZ [rowI Ap cp ps]) S w' i := fun S w' hb hS => by
  by_cases h0 : ps.length = 0
  ·intro i _ q hq
   match i with
   | 0 => exact absurd hq (by show ¬ q < ps.length; omega)
   | i + 1 => exact absurd hq (Nat.not_lt_zero _)
  ·exact Zbf (Kd.C_below hp hb) (fun a ha hs => by have := hS _ hs; have := hlt_ a ha (by omega); omega)
 have hX0 : CxOk Tryz.prog (mkXR O [] [] [rowI Ap cp ps]) (fun _ => 0) 0 w := Zaw hO ZW Zap (rowsP _ _ (Below.refl _ _) fun q ⟨i, hi, _⟩ => by omega)
 refine ZaD (X := mkXR O [] [] [rowI Ap cp ps]) (d1 := fun _ => 0) Tryz.func14 rfl (by kernel_rfl) hm hX0 [.agg [.int wh, .int sz, .slc A2 l2.length c2, .slc A3 l3.length c3, .int ck], .sl 0] 6 900 (Nat.le_of_ble_eq_true rfl) ?_
 have e6 : (rowI Ap cp ps) = { a := Ap, g := (Ap.getD ⟨0, 0, none⟩).block, p := (Ap.getD ⟨0, 0, none⟩).off, n := ps.length, c := cp, sz := 1, get := fun i => [.int (rd ps i)] } := rfl
 have bel : ∀ {d w'}, Upd (Bx d 0) w w' → Below w.heap.size w w' := fun hu => hu.below fun k ⟨i, hi, _⟩ => by omega
 generalize hQ : Owes _ _ _ _ _ _ = Q
 rw [e6]
 generalize hn : ps.length = nP
 generalize hrd : rd ps = rdP
 generalize hl2 : l2.length = n2
 generalize hl3 : l3.length = n3
 cbv
 subst hQ hn hrd hl2 hl3
 refine Zaf hm hX0 rfl rfl rfl ⟨_, Tryz.func26, rfl, rfl⟩ rfl fun d1 w1 hr1 => ⟨_, HK w1 (bel hr1.upd), ?_⟩
 rintro e1 w2 ⟨rfl, hb⟩
 have hr2 := hr1.below hb
 have hX2 := hX0.reroot hr2
 refine ⟨.bool ok, 900, _, rfl, hb, rfl, ?_⟩
 generalize hQ : Owes _ _ _ _ _ _ = Q
 rw [e6]
 generalize hn : ps.length = nP
 generalize hrd : rd ps = rdP
 generalize hl2 : l2.length = n2
 generalize hl3 : l3.length = n3
 cbv
 refine ⟨fun h => ?_, fun h => ?_⟩
 ·cbv
  subst hQ hn hrd hl2 hl3
  refine Zav hX2 rfl fun d3 w3 hr3 => ⟨bel (hr2.comp hr3).upd, ?_⟩
  rw [nott ok h]
  exact rfl
 have hok := notf ok h
 cbv
 subst hQ hn hrd hl2 hl3
 subst hok
 generalize hrr : runF F ps ⟨wh, sz, l2, l3, ck⟩ = rr
 refine Zaf hm hX2 rfl rfl rfl ⟨_, Tryz.func34, rfl, rfl⟩ rfl fun d3 w3 hr3 => ⟨_, HC rfl w3 (bel (hr2.comp hr3).upd), ?_⟩
 rintro e3 w4 ⟨v2, v3, rfl, hM, hb4⟩
 have hr4 := (hr2.comp hr3).below hb4
 have hX4 := hX2.reroot (hr3.below hb4)
 have s0 : d3 0 < w3.heap.size := hr3.lt (Nat.zero_lt_succ _)
 have s1 : d3 1 < w3.heap.size := hr3.lt (Nat.succ_lt_succ (Nat.zero_lt_succ _))
 have n0_ : w.heap.size ≤ d3 0 := hr4.new 0 (Nat.le_refl _) (Nat.zero_lt_succ _)
 have n1_ : w.heap.size ≤ d3 1 := hr4.new 1 (Nat.zero_le _) (Nat.succ_lt_succ (Nat.zero_lt_succ _))
 obtain ⟨A, n, k, B, m, j, rfl, rfl⟩ := hM.slices
 have hw3 : w.heap.size ≤ w3.heap.size := (bel (hr2.comp hr3).upd).size
 refine ⟨.agg [.int wh, .int sz, .slc A n k, .slc B m j, .int ck], 900, _, rfl, hb4, rfl, ?_⟩
 generalize hQ : Owes _ _ _ _ _ _ = Q
 rw [e6]
 generalize hn : ps.length = nP
 generalize hrd : rd ps = rdP
 generalize hl2 : l2.length = n2
 generalize hl3 : l3.length = n3
 cbv
 subst hQ hn hrd hl2 hl3
 intro hk d5 a5 w5 hR5 hr5
 have hb5 : Below w.heap.size w w5 := bel (hr4.comp hr5).upd
 refine ZaT (ps.length + 1) ?_
 refine ZaX (fun kk a w' => ∃ (i : Nat) (c : Cw) (B2 : Option Addr) (m2 k2 : Nat) (B3 : Option Addr) (m3 k3 : Nat) (d : Nat → Nat), i ≤ ps.length ∧ ps.length - i < kk ∧ Good c ∧ Below w.heap.size w w' ∧ (∀ q, q < 3 → w.heap.size ≤ d q) ∧ Rel (ZZ [rowI Ap cp ps]) d (St.of 6 33 [(2, .ptr 0 0), (4, .ptr 1 0), (5, .ptr 2 0), (16, .v (.sl 0)), (17, .v (.int (ps.length : Nat))), (18, .v (.int (i : Nat)))] [[.int wh, .int sz, .slc A2 l2.length c2, .slc A3 l3.length c3, .int ck], [.lit 0, .lit 0, .slc none 0 0, .slc none 0 0, .lit 0], [.int c.wh, .int c.sz, .slc B2 m2 k2, .slc B3 m3 k3, .int c.ck]]) a ∧ Zak (ZZ [rowI Ap cp ps]) d 3 w' d [[.int wh, .int sz, .slc A2 l2.length c2, .slc A3 l3.length c3, .int ck], [.lit 0, .lit 0, .slc none 0 0, .slc none 0 0, .lit 0], [.int c.wh, .int c.sz, .slc B2 m2 k2, .slc B3 m3 k3, .int c.ck]] w' ∧ Zbe w w' d c (.slice B2 m2 k2) (.slice B3 m3 k3) ∧ runF F (ps.drop i) c = rr) (fun a w' ⟨i, c, B2, m2, k2, B3, m3, k3, d, h1, h2, _⟩ => by omega) (fun kk a w' IH hI => ?_) _ _ _ ?_
 rotate_left
 ·refine ⟨0, ⟨wh, sz, l2, l3, ck⟩, A, n, k, B, m, j, d5, Nat.zero_le _, by omega, hG0 rfl, hb5, fun q hq => ?_, hR5.weaken rfl ⟨rfl, rfl, rfl, rfl, rfl, rfl, trivial⟩ (ZaJ _ _ rfl), hr5.reroot, ?_, hrr⟩
  ·exact (hr4.comp hr5).new q (Nat.zero_le _) hq
  ·have o0 : d5 0 = d3 0 := hr5.old 0 (Nat.zero_lt_succ _)
   have o1 : d5 1 = d3 1 := hr5.old 1 (Nat.succ_lt_succ (Nat.zero_lt_succ _))
   refine Zbe.step (Made.apart hM hw3 (d := d5) fun i hi => ?_) (hr5.upd.mono ?_)
   ·match i, hi with
    | 0, _ => exact .inl (by omega)
    | 1, _ => exact .inl (by omega)
    | 2, _ => exact .inr (hr5.new 2 (Nat.le_refl _) (Nat.succ_lt_succ (Nat.succ_lt_succ (Nat.zero_lt_succ _))))
   ·rintro q ⟨i, hi, rfl⟩
    match i, hi with
    | 0, _ => exact ⟨0, by decide, o0.symm⟩
    | 1, _ => exact ⟨1, by decide, o1.symm⟩
 obtain ⟨i, c, B2, m2, k2, B3, m3, k3, d, hi, hkk, hGc, hbw, hdw, hRel, hRe, hAp, hrun⟩ := hI
 have hXl : CxOk Tryz.prog (mkXR O [] [] [rowI Ap cp ps]) d 3 w' := Zaw hO ZW Zap (rowsP _ _ hbw fun q ⟨i, hi, he⟩ => he ▸ hdw i hi)
 refine ZaF Zag hm hXl 900 _ _ d a w' ⟨hk.1, hk.1, hk.2⟩ hRel hRe ?_
 have belL : ∀ {d' w2}, (∀ i, i < 3 → d' i = d i) → Upd (Bx d' 3) w' w2 → Below w.heap.size w w2 := fun hd hu => Zar hbw hu (fun q ⟨i, hi, he⟩ => by rw [he, hd i hi]; exact hdw i hi) hbw.size
 obtain rfl : m2 = c.m.length := (Kd.R_reads' hAp.1).1
 obtain rfl : m3 = c.l.length := (Kd.S_reads' hAp.2).1
 generalize hQ : Owes _ _ _ _ _ _ = Q
 rw [e6]
 generalize hn : ps.length = nP
 generalize hrd : rd ps = rdP
 generalize hl2 : l2.length = n2
 generalize hl3 : l3.length = n3
 generalize hq2 : c.m.length = q2
 generalize hq3 : c.l.length = q3
 cbv
 refine ⟨fun h => ?_, fun h => ?_⟩
 ·have hlt : i < ps.length := by
   rw [hO] at h
   have := of_decide_eq_true (show decide ((i : Int) < (nP : Int)) = true from h)
   omega
  cbv
  refine ⟨?_, ?_⟩
  ·rw [hO]
   show (decide (0 ≤ (i : Int)) && decide ((i : Int) < (nP : Int))) = true
   rw [Bool.and_eq_true, decide_eq_true_eq, decide_eq_true_eq]
   omega
  (try cbv)
  subst hQ hn hrd hl2 hl3 hq2 hq3
  have hdr : ps.drop i = rd ps i :: ps.drop (i + 1) := by
   rw [List.drop_eq_getElem_cons hlt]
   congr 1
   show _ = ps.getD i 0
   rw [List.getD_eq_getElem?_getD, List.getElem?_eq_getElem hlt]
   rfl
  rw [hdr] at hrun
  refine Zaf hm hXl rfl rfl rfl ⟨_, Tryz.func8, rfl, rfl⟩ rfl fun d6 w6 hr6 => ⟨_, HS c (rd ps i) B2 k2 B3 k3 w6 hGc (hPI i hlt) (Kd.R_reads' (hAp.step hr6.upd).1).2.2 (Kd.R_reads' (hAp.step hr6.upd).1).2.1 (Kd.S_reads' (hAp.step hr6.upd).2).2.2 (Kd.S_reads' (hAp.step hr6.upd).2).2.1, ?_⟩
  rintro e7 w7 ⟨hb7, h7⟩
  have hr7 := hr6.below hb7
  have hX7 := hXl.reroot hr7
  simp only [runF] at hrun
  cases hF : F c (rd ps i) with
  | none =>
    rw [hF] at h7 hrun
    obtain rfl := h7
    subst hrun
    refine ⟨.tup [.agg [.int 0, .int 0, .slc none 0 0, .slc none 0 0, .int 0], .bool false], 900, _, rfl, hb7, rfl, ?_⟩
    generalize hQ : Owes _ _ _ _ _ _ = Q
    rw [e6]
    generalize hn : ps.length = nP
    generalize hrd : rd ps = rdP
    generalize hl2 : l2.length = n2
    generalize hl3 : l3.length = n3
    generalize hq2 : c.m.length = q2
    generalize hq3 : c.l.length = q3
    cbv
    refine ⟨fun h => ?_, fun h => absurd (notf _ h) (by simp)⟩
    cbv
    subst hQ hn hrd hl2 hl3 hq2 hq3
    refine Zav hX7 rfl fun d8 w8 hr8 => ?_
    have hA8 := hAp.step (hr7.comp hr8).upd
    exact ⟨belL (fun _ _ => rfl) (hr7.comp hr8).upd, _, _, rfl, hA8.made⟩
  | some c' =>
    rw [hF] at h7 hrun
    obtain ⟨v2, v3, rfl, hM⟩ := h7
    obtain ⟨A', n', k', B', m', j', rfl, rfl⟩ := hM.slices
    refine ⟨.tup [.agg [.int c'.wh, .int c'.sz, .slc A' n' k', .slc B' m' j', .int c'.ck], .bool true], 900, _, rfl, hb7, rfl, ?_⟩
    generalize hQ : Owes _ _ _ _ _ _ = Q
    rw [e6]
    generalize hn : ps.length = nP
    generalize hrd : rd ps = rdP
    generalize hl2 : l2.length = n2
    generalize hl3 : l3.length = n3
    generalize hq2 : c.m.length = q2
    generalize hq3 : c.l.length = q3
    cbv
    refine ⟨fun h => absurd (nott _ h) (by simp), fun h => ?_⟩
    cbv
    subst hQ hn hrd hl2 hl3 hq2 hq3
    intro hk8 d8 a8 w8 hR8 hr8
    have o6 : ∀ i, i < 3 → d8 i = d6 i := fun i hi => hr8.old i hi
    refine IH a8 w8 ⟨i + 1, c', A', n', k', B', m', j', d8, hlt, by omega, hG c _ c' hGc (hPI i hlt) hF, belL (fun _ _ => rfl) (hr7.comp hr8).upd, fun q hq => by rw [o6 q hq, hr7.old q hq]; exact hdw q hq, hR8.weaken rfl ⟨rfl, rfl, rfl, rfl, rfl, congrArg (fun x => Slot.v (.int x)) ?_, trivial⟩ (ZaJ _ _ rfl), (Zak.drop (b := [_, _, _]) (r := [_]) hr8 (Nat.le_refl 3)).reroot (st := ⟨0, .nil, [_, _, _]⟩), Zbe.step (Made.apart hM (Nat.le_trans hbw.size hr6.upd.size) (d := d8) fun i hi => .inl (by rw [o6 i hi]; exact hr6.lt hi)) (hr8.upd.mono ?_), hrun⟩
    ·rw [hO]
     show wrap64 ((i : Int) + 1) = ((i + 1 : Nat) : Int)
     unfold wrap64
     omega
    ·rintro q ⟨i, hi, rfl⟩
     exact ⟨i, hi, (o6 i hi).symm⟩
 ·have hge : i = ps.length := by
   rw [hO] at h
   have := of_decide_eq_false (show decide ((i : Int) < (nP : Int)) = false from h)
   omega
  cbv
  subst hQ hn hrd hl2 hl3 hq2 hq3
  subst hge
  rw [List.drop_length] at hrun
  simp only [runF] at hrun
  subst hrun
  refine Zav hXl rfl fun d8 w8 hr8 => ?_
  exact ⟨belL (fun _ _ => rfl) hr8.upd, _, _, rfl, (hAp.step hr8.upd).made⟩
end Go.Proofs.YtgghglocfdcegaaGreat.Xec
namespace Go.Proofs.YtgghglocfdcegaaGreat.Xec
open Go Go.RowKit Go.Proofs.YtgghglocfdcegaaGreat.PFnExactCrewRun Go.Proofs.YtgghglocfdcegaaGreatW.PrintWords
set_option linter.unusedVariables false
set_option linter.unusedSimpArgs false
theorem Zf9 {w : World} {A : Option Addr} {c n sz : Nat} {R : Nat → Row} {r : Nat} {get : Int → List AV} {S : Nat → Prop} (hs : 0 < sz) (hr : R r = ZaA A n c sz get) (h : ∀ i : Nat, i < n → ∃ ad cs, A = some ad ∧ cs.length = sz ∧ AV.vs R (get i) = cs ∧ ∀ q u, cs[q]? = some u → w.cell? (ad.add (i * sz + q)) = some u) (hS : ∀ a, A = some a → ¬ S a.block) : ZaV R S w r := by
 intro _ i hi
 rw [hr] at hi ⊢
 simp only [ZaA] at hi ⊢
 obtain ⟨ad, cs, e, hl, hv, hcell⟩ := h i hi
 obtain ⟨hsp, hbl⟩ : ad.spot = none ∧ ad.block < w.heap.size := by
  obtain ⟨ad0, cs0, e0, hl0, -, hcell0⟩ := h 0 (by omega)
  rw [e] at e0
  injection e0 with e0
  subst e0
  have hc0 := hcell0 0 (cs0[0]'(by omega)) (List.getElem?_eq_getElem (by omega))
  have e0 : ad.add (0 * sz + 0) = ad := by simp [Addr.add]
  rw [e0] at hc0
  unfold World.cell? at hc0
  split at hc0
  ·rename_i c' _ _ hb
   have hlt := (Array.getElem?_eq_some_iff.1 hb).1
   split at hc0
   ·cases hc0
   ·rename_i hs
    exact ⟨by simpa using hs, hlt⟩
  ·cases hc0
 subst e
 have hlen : (get i).length = cs.length := by rw [← hv, Zbz]
 have ad_ : ∀ k, ad.add k = ⟨ad.block, ad.off + k, none⟩ := by
  intro k
  obtain ⟨b, o, s⟩ := ad
  simp only at hsp
  subst hsp
  simp only [Addr.add]
  split
  ·rename_i h0; subst h0; rfl
  ·rfl
 refine ⟨by rw [Option.getD_some, ← hsp], hS _ rfl, hbl, by rw [hlen, hl], fun q x hq => ?_⟩
 have := hcell q (x.v R) (by rw [← hv, Zcg, hq]; rfl)
 rw [ad_] at this
 rw [Option.getD_some, Nat.add_assoc]
 exact this
structure Sl where
 A0 : Option Addr
 c0 : Nat
 A2 : Option Addr
 c2 : Nat
 A3 : Option Addr
 c3 : Nat
 deriving Inhabited
structure SlOk (s : Sl) (w : World) (t : S52) : Prop where
 h0 : k54.C w s.A0 t.f0.length t.f0
 l0 : t.f0.length ≤ s.c0
 h2 : (Kd.int .i64).C w s.A2 t.f2.length t.f2
 l2 : t.f2.length ≤ s.c2
 h3 : (Kd.int .i64).C w s.A3 t.f3.length t.f3
 l3 : t.f3.length ≤ s.c3
theorem SlOk.below {s : Sl} {w w' : World} {t : S52} (h : SlOk s w t) (hb : Below w.heap.size w w') : SlOk s w' t := ⟨Kd.C_below h.h0 hb, h.l0, Kd.C_below h.h2 hb, h.l2, Kd.C_below h.h3 hb, h.l3⟩
def thC (s : Sl) (t : S52) : List AV := [.slc s.A0 t.f0.length s.c0, .int t.f1, .slc s.A2 t.f2.length s.c2, .slc s.A3 t.f3.length s.c3]
def rowT (A : Option Addr) (c : Nat) (l : List S52) (f : Int → Sl) : Row := ZaA A l.length c 4 (fun i => thC (f i) (rd_T52 l i))
theorem Zbm {w : World} {A : Option Addr} {l : List S52} (c : Nat) (h : k52.C w A l.length l) : ∃ f : Int → Sl, (∀ i : Nat, i < l.length → SlOk (f i) w (rd_T52 l i)) ∧ ∀ (R : Nat → Row) (r : Nat) (S : Nat → Prop), R r = rowT A c l f → (∀ a, A = some a → ¬ S a.block) → ZaV R S w r := by
 have H : ∀ i : Int, ∃ s : Sl, 0 ≤ i → i < (l.length : Int) → SlOk s w (rd_T52 l i) ∧ ∃ ad, A = some ad ∧ ∀ q u, ([.slice s.A0 (rd_T52 l i).f0.length s.c0, .int .i64 (rd_T52 l i).f1, .slice s.A2 (rd_T52 l i).f2.length s.c2, .slice s.A3 (rd_T52 l i).f3.length s.c3] : List Value)[q]? = some u → w.cell? (ad.add (i.toNat * 4 + q)) = some u := by
  intro i
  by_cases hi : 0 ≤ i ∧ i < (l.length : Int)
  ·obtain ⟨ad, cs, e, hl, hK, hc⟩ := Kd.C_get h z52 i hi.1 hi.2
   obtain ⟨A0, c0, A2, c2, A3, c3, rfl, l0, g0, l2, g2, l3, g3⟩ := k52_open hK
   exact ⟨⟨A0, c0, A2, c2, A3, c3⟩, fun _ _ => ⟨⟨g0, l0, g2, l2, g3, l3⟩, ad, e, hc⟩⟩
  ·exact ⟨default, fun h0 h1 => absurd ⟨h0, h1⟩ hi⟩
 refine ⟨fun i => (H i).choose, fun i hi => ((H i).choose_spec (by omega) (by omega)).1, fun R r S hR hS => Zf9 (by decide) hR (fun i hi => ?_) hS⟩
 obtain ⟨-, ad, e, hc⟩ := (H i).choose_spec (by omega) (by omega)
 exact ⟨ad, _, e, rfl, rfl, fun q u hq => hc q u hq⟩
theorem rd52 {l : List S52} {i : Nat} {t : S52} (h : l[i]? = some t) : rd_T52 l i = t := by
 show l.getD i z52 = t
 rw [List.getD_eq_getElem?_getD, h]
 rfl
end Go.Proofs.YtgghglocfdcegaaGreat.Xec
