/- Part Q of the proof of FnExactCrewStep and FnExactCrewRun (wip/xec, pack.py). No condition. -/
import Derived.Test.YtgghglocfdcegaaGreatKO
import Derived.Test.YtgghglocfdcegaaGreatKG
namespace Go.Proofs.YtgghglocfdcegaaGreat.Xec
open Go Go.RowKit Go.Proofs.YtgghglocfdcegaaGreat.PFnExactCrewRun Go.Proofs.YtgghglocfdcegaaGreatW.PrintWords Go.Proofs.YtgghglocfdcegaaGreatW.PrintLast
set_option linter.unusedVariables false
set_option linter.unusedSimpArgs false
set_option maxRecDepth 100000
set_option maxHeartbeats 16000000
theorem ZgE {A : Option Addr} {c n : Nat} {l : List Int} {w : World} (hn : l.length = n) (hc : l.length ≤ c) (hC : (Kd.int .i64).C w A l.length l) (hs : l.length < 17592186044416) : Calls Tryz.prog 60 #[.slice A n c] w fun e w' => ∃ v : Value, e = .returned v ∧ (Kd.int .i64).R 3 w' w.heap.size (fun _ => True) v l ∧ Below w.heap.size w w' := by
 subst hn
 exact impl_copyInts.calls A c l l w hC hc (by unfold impl_copyInts.f; simp [hs])
theorem I54 : ∃ i, Tryz.prog.info? 54 = some i := (Option.map_eq_some_iff.1 info54).imp fun _ h => h.1
theorem I3 : ∃ i, Tryz.prog.info? 3 = some i := (Option.map_eq_some_iff.1 info3).imp fun _ h => h.1
theorem Zgr {b2 b5 b8 b11 b12 b15 : Bool} {n : Nat} (hn : (!b2).toNat + (!b5).toNat + (!b8).toNat + (!b11).toNat + (!b12).toNat + (!b15).toNat = n + 1) : sel (!b2) 2 ++ (sel (b2 && !b5) 5 ++ (sel (!b8) 8 ++ (sel (b8 && b5 && !b11) 11 ++ (sel (!b12) 12 ++ (sel (b12 && b11 && !b15) 15 ++ sel (b5 && b11 && b15) 16))))) ≠ [] := by
 revert hn
 cases b2 <;> cases b5 <;> cases b8 <;> cases b11 <;> cases b12 <;> cases b15 <;> simp [sel]
theorem ZdA {l : List Int} (h : l.length < 17592186044416) : impl_copyMem.f l = some l := by
 unfold impl_copyMem.f impl_copyInts.f
 simp [h]
theorem Zdu {l : List Int} (h : l.length < 17592186044416) : spec_l02Copy.f l = some l := by
 unfold spec_l02Copy.f
 simp [h]
theorem Zc8.walk (wh sz ck : Int) (A2 : Option Addr) (c2 : Nat) (l2 : List Int) (A3 : Option Addr) (c3 : Nat) (l3 : List S52) (w : World) (h2 : (Kd.int .i64).C w A2 l2.length l2) (hc2 : l2.length ≤ c2) (h3 : k52.C w A3 l3.length l3) (hc3 : l3.length ≤ c3) (hs2 : l2.length < 17592186044416) (hs3 : l3.length ≤ 1000000000) (hst : ∀ i : Nat, i < l3.length → (rd_T52 l3 i).f0.length ≤ 1000000000 ∧ (rd_T52 l3 i).f2.length ≤ 1000000000 ∧ (rd_T52 l3 i).f3.length ≤ 1000000000) :
 Calls Tryz.prog 34 #[crV wh sz A2 l2.length c2 A3 l3.length c3 ck] w fun e w' => ∃ v2 v3, e = .returned (cwV ⟨wh, sz, l2, l3, ck⟩ v2 v3) ∧ Made w w' ⟨wh, sz, l2, l3, ck⟩ v2 v3 ∧ Below w.heap.size w w' := by
 obtain ⟨O, hO⟩ : ∃ O, O = std := ⟨_, rfl⟩
 obtain ⟨f, hf, hrow⟩ := Zbm c3 h3
 obtain ⟨L0, hL0⟩ : ∃ M : Int → Nat, ∀ i, (rd_T52 l3 i).f0.length = M i := ⟨_, fun _ => rfl⟩
 obtain ⟨L1, hL1⟩ : ∃ M : Int → Int, ∀ i, (rd_T52 l3 i).f1 = M i := ⟨_, fun _ => rfl⟩
 obtain ⟨L2, hL2⟩ : ∃ M : Int → Nat, ∀ i, (rd_T52 l3 i).f2.length = M i := ⟨_, fun _ => rfl⟩
 obtain ⟨L3, hL3⟩ : ∃ M : Int → Nat, ∀ i, (rd_T52 l3 i).f3.length = M i := ⟨_, fun _ => rfl⟩
 obtain ⟨rw0, hrw0⟩ : ∃ r : Row, r = { a := A3, g := (A3.getD ⟨0, 0, none⟩).block, p := (A3.getD ⟨0, 0, none⟩).off, n := l3.length, c := c3, sz := 4, get := fun i => [.slc (f i).A0 (L0 i) (f i).c0, .int (L1 i), .slc (f i).A2 (L2 i) (f i).c2, .slc (f i).A3 (L3 i) (f i).c3] } := ⟨_, rfl⟩
 have e6 : rowT A3 c3 l3 f = rw0 := by
  rw [hrw0]
  unfold rowT ZaA thC
  simp only [hL0, hL1, hL2, hL3]
 have hRow : ∀ r, ZaV (ZZ [rw0]) (Bx (fun _ => 0) 0) w r := ZaG (hrow (ZZ [rw0]) 0 _ (by rw [e6, hrw0]; rfl) fun a _ ⟨i, hi, _⟩ => absurd hi (Nat.not_lt_zero _))
 have hX0 : ∀ (d : Nat → Nat) (n : Nat) (w' : World), Below w.heap.size w w' → (∀ i, i < n → w.heap.size ≤ d i) → CxOk Tryz.prog (mkXR O [] [] [rw0]) d n w' := fun d n w' hb hge => Zaw hO ZW Zap (fun r => ZeV (hRow r) hb hge)
 refine ZaD (X := mkXR O [] [] [rw0]) (d1 := fun _ => 0) Tryz.func34 rfl (by kernel_rfl) hm (hX0 _ _ _ (Below.refl _ _) (fun i hi => absurd hi (Nat.not_lt_zero _))) [.agg [.int wh, .int sz, .slc A2 l2.length c2, .slc A3 l3.length c3, .int ck]] 6 900 (Nat.le_of_ble_eq_true rfl) ?_
 generalize hQ : Owes _ _ _ _ _ _ = Q
 generalize hn2 : l2.length = n2
 generalize hn3 : l3.length = n3
 cbv
 subst hQ hn2 hn3
 intro hk d a w1 hR hr li hs hmem
 have hb : Below w.heap.size w w1 := hr.upd.below fun k ⟨i, hi, _⟩ => by omega
 obtain rfl := Zda hs (by kernel_rfl)
 clear hs
 generalize hQk : wpK Tryz.prog _ _ = Qk
 have bxg : ∀ (d : Nat → Nat) {n : Nat}, (∀ i, i < n → w.heap.size ≤ d i) → ∀ q, Bx d n q → w.heap.size ≤ q := fun d n h q ⟨i, hi, he⟩ => by rw [he]; exact h i hi
 have hge : ∀ i, i < 2 → w.heap.size ≤ d i := fun i hi => hr.new i (Nat.zero_le _) hi
 have hlt1 : ∀ i, i < 2 → d i < w1.heap.size := fun i hi => hr.lt hi
 have hCi : ∀ {d1 : Nat → Nat} {n1 : Nat} {v1 : World} {d' : Nat → Nat} {r : List (List AV)} {v : World}, Zak (ZZ [rw0]) d1 n1 v1 d' ([[.int wh, .int sz, .slc A2 l2.length c2, .slc A3 l3.length c3, .int ck], [.lit 0, .lit 0, .slc none 0 0, .slc none 0 0, .lit 0]] ++ r) v → (∀ i, i < 2 → d' i = d i) → Below w.heap.size w v → ∃ b, Zak (ZZ [rw0]) (fun _ => 0) 0 w d b v ∧ Zay [] 0 b = Zay [] 0 [[.int wh, .int sz, .slc A2 l2.length c2, .slc A3 l3.length c3, .int ck], [.lit 0, .lit 0, .slc none 0 0, .slc none 0 0, .lit 0]] := fun h hd hb => ⟨_, (h.head.congr (X := mkXR O [] [] [rw0]) fun i hi => (hd i hi).symm).root hb hge, rfl⟩
 have hfin : ∀ (d' : Nat → Nat) (a' : Act) (w' : World) (Am : Option Addr) (nm cm : Nat), Below w.heap.size w w' → (Kd.int .i64).R 3 w' w.heap.size (fun q => ∀ i, i < 3 → q ≠ d' i) (.slice Am nm cm) l2 → (∀ i, i < 3 → w.heap.size ≤ d' i) → Rel (ZZ [rw0]) d' (St.of 6 42 [(1, .ptr 0 0), (2, .ptr 1 0), (3, .ptr 2 0)] [[.int wh, .int sz, .slc A2 l2.length c2, .slc A3 l3.length c3, .int ck], [.lit 0, .lit 0, .slc none 0 0, .slc none 0 0, .lit 0], [.int wh, .int sz, .slc Am nm cm, .slc none 0 0, .int ck]]) a' → Zak (ZZ [rw0]) d' 3 w' d' [[.int wh, .int sz, .slc A2 l2.length c2, .slc A3 l3.length c3, .int ck], [.lit 0, .lit 0, .slc none 0 0, .slc none 0 0, .lit 0], [.int wh, .int sz, .slc Am nm cm, .slc none 0 0, .int ck]] w' → Qk .normal a' w' := ?fin
 case fin =>
  intro d3 a3 w3 Am nm cm hb3 hv3 hge3 hR3 hr3
  subst hQk
  have hr3' : Zak (ZZ [rw0]) d3 3 w3 d3 [[.int wh, .int sz, .slc A2 l2.length c2, .sl 0, .int ck], [.lit 0, .lit 0, .slc none 0 0, .slc none 0 0, .lit 0], [.int wh, .int sz, .slc Am nm cm, .slc none 0 0, .int ck]] w3 := hr3.same (by subst hrw0; rfl)
  refine ZaF Zag hm (hX0 d3 3 w3 hb3 hge3) 900 _ _ d3 a3 w3 hk (hR3.weaken (dep := 6) (n := 42) (l := [(1, .ptr 0 0), (2, .ptr 1 0), (3, .ptr 2 0)]) (b := [[.int wh, .int sz, .slc A2 l2.length c2, .sl 0, .int ck], [.lit 0, .lit 0, .slc none 0 0, .slc none 0 0, .lit 0], [.int wh, .int sz, .slc Am nm cm, .slc none 0 0, .int ck]]) rfl ⟨rfl, rfl, rfl, trivial⟩ (ZaJ _ _ rfl)) hr3' ?_
  obtain ⟨nL, hnL⟩ : ∃ n : Nat, n = l3.length := ⟨_, rfl⟩
  rw [← hnL] at hrw0
  generalize hQ : Owes _ _ _ _ _ _ = Q
  rw [hrw0]
  generalize hn2 : l2.length = n2
  cbv
  subst hQ hn2 hnL
  intro hk5 d5 a5 w5 hR5 hr5
  have hb5 : Below w.heap.size w w5 := Zar hb3 hr5.upd (bxg d3 hge3) hb3.size
  have hge5 : ∀ i, i < 3 → w.heap.size ≤ d5 i := fun i hi => by rw [hr5.old i hi]; exact hge3 i hi
  refine ZaT (l3.length + 1) ?_
  refine ZaX (fun kk a' w' => ∃ (i : Nat) (d : Nat → Nat) (Am : Option Addr) (nm cm : Nat) (Av : Option Addr) (nv cv : Nat), i ≤ l3.length ∧ l3.length - i < kk ∧ Below w.heap.size w w' ∧ (∀ q, q < 3 → w.heap.size ≤ d q) ∧ Rel (ZZ [rw0]) d (St.of 6 42 [(1, .ptr 0 0), (2, .ptr 1 0), (3, .ptr 2 0), (17, .v (.sl 0)), (18, .v (.int (l3.length : Nat))), (19, .v (.int (i : Nat)))] [[.int wh, .int sz, .slc A2 l2.length c2, .sl 0, .int ck], [.lit 0, .lit 0, .slc none 0 0, .slc none 0 0, .lit 0], [.int wh, .int sz, .slc Am nm cm, .slc Av nv cv, .int ck]]) a' ∧ Zak (ZZ [rw0]) d 3 w' d [[.int wh, .int sz, .slc A2 l2.length c2, .sl 0, .int ck], [.lit 0, .lit 0, .slc none 0 0, .slc none 0 0, .lit 0], [.int wh, .int sz, .slc Am nm cm, .slc Av nv cv, .int ck]] w' ∧ Zbe w w' d ⟨wh, sz, l2, l3.take i, ck⟩ (.slice Am nm cm) (.slice Av nv cv)) (fun a' w' ⟨i, d, Am, nm, cm, Av, nv, cv, h1, h2, _⟩ => by omega) (fun kk a' w' IH hI => ?_) _ _ _ ?_
  rotate_left
  ·refine ⟨0, d5, Am, nm, cm, none, 0, 0, Nat.zero_le _, by omega, hb5, hge5, ?_, hr5.reroot, ?_⟩
   ·refine hR5.carry rfl ⟨⟨rfl, rfl, trivial⟩, ⟨rfl, rfl, trivial⟩, ⟨rfl, rfl, trivial⟩, ⟨rfl, rfl, trivial⟩, ⟨rfl, rfl, trivial⟩, ⟨rfl, rfl, trivial⟩, trivial⟩ rfl
   ·exact ⟨Kd.R_step (Kd.R_mono hv3 fun q hq i hi => by rw [hr5.old i hi]; exact hq i hi) (fun q hq hlt => hr5.upd.block q hlt fun ⟨i, hi, he⟩ => hq i hi (by rw [he, hr5.old i hi])), Kd.S_nil _ _ _ _ _⟩
  obtain ⟨i, d, Am, nm, cm, Av, nv, cv, hi, hkk, hbw, hdw, hRel, hRe, hAp⟩ := hI
  by_cases hlt : i < l3.length
  ·refine ZaF Zag hm (hX0 d 3 w' hbw hdw) 16 _ _ d a' w' ⟨hk5.1, hk5.1, hk5.2⟩ hRel hRe ?_
   have i3 : O.lt (i : Int) (l3.length : Int) = true := by
    rw [hO]
    exact decide_eq_true (show (i : Int) < (l3.length : Int) by omega)
   have i4 : O.inb (i : Int) l3.length = true := by
    rw [hO]
    show (decide (0 ≤ (i : Int)) && decide ((i : Int) < (l3.length : Int))) = true
    rw [Bool.and_eq_true, decide_eq_true_eq, decide_eq_true_eq]
    omega
   obtain ⟨nL, hnL⟩ : ∃ n : Nat, n = l3.length := ⟨_, rfl⟩
   rw [← hnL] at hrw0 i3 i4 ⊢
   generalize hQ : Owes _ _ _ _ _ _ = Q
   rw [hrw0]
   generalize hn2 : l2.length = n2
   cbv
   refine ⟨fun _ => ?_, fun hf => absurd i3 (by rw [show O.lt (i : Int) (nL : Int) = false from hf]; simp)⟩
   cbv
   refine ⟨i4, ?_⟩
   cbv
   subst hQ hn2 hnL
   intro hk6 d6 a6 w6 hR6 hr6
   have o6 : ∀ q, q < 3 → d6 q = d q := fun q hq => hr6.old q hq
   have hge6 : ∀ q, q < 4 → w.heap.size ≤ d6 q := fun q hq => if h : q < 3 then (by rw [o6 q h]; exact hdw q h) else Nat.le_trans hbw.size (hr6.new q (Nat.le_of_not_lt h) hq)
   have hb6 : Below w.heap.size w w6 := Zar hbw hr6.upd (bxg d hdw) hbw.size
   have hlt6 : ∀ q, q < 4 → d6 q < w6.heap.size := fun q hq => hr6.lt hq
   refine Zct Zag hm (hX0 (fun _ => 0) 0 w (Below.refl _ _) (fun i hi => absurd hi (Nat.not_lt_zero _))) (hX0 d6 4 w6 hb6 hge6) (fun b v h => h.root' hb6 hge6) (W := []) hk6.1 rfl hR6 hr6.reroot ?_
   obtain ⟨nL, hnL⟩ : ∃ n : Nat, n = l3.length := ⟨_, rfl⟩
   rw [← hnL] at hrw0
   generalize hQ : Zeq _ _ _ _ _ _ _ _ _ _ _ _ _ _ = Q
   generalize hn2 : l2.length = n2
   generalize hnL2 : l3.length = nL2
   rw [hrw0]
   cbv
   subst hQ hn2 hnL hnL2
   intro li a7 w7 hs hR7 hr7
   obtain rfl := Zda hs (by kernel_rfl)
   clear hs
   generalize hQk : wpK Tryz.prog _ _ = Qk
   have hr67 := hr6.comp hr7
   have hAp7 : Zbe w w7 d ⟨wh, sz, l2, l3.take i, ck⟩ (.slice Am nm cm) (.slice Av nv cv) := hAp.step hr67.upd
   have n3 : w'.heap.size ≤ d6 3 := hr6.new 3 (Nat.le_refl _) (by show 3 < 4; omega)
   have hb7 : Below w.heap.size w w7 := Zar hb6 hr7.upd (bxg d6 hge6) hb6.size
   have hlt7 : ∀ q, q < 4 → d6 q < w7.heap.size := fun q hq => hr7.lt hq
   have hsz : w'.heap.size ≤ w7.heap.size := hr67.upd.size
   have far2 : ∀ q, (Value.slice Am nm cm).ownBlock = some q → q < w7.heap.size := fun q hq => Kd.R_lt hAp7.1 q hq
   have far3 : ∀ q, (Value.slice Av nv cv).ownBlock = some q → q < w7.heap.size ∧ (∀ j, j < 4 → q ≠ d6 j) ∧ some q ≠ (Value.slice Am nm cm).ownBlock := fun q hq => by
    obtain ⟨_, hu⟩ := Kd.S_bound hAp.2
    have h0 := hu.1 q hq
    have h1 := h0.1
    have h2 := h0.2.2.1
    refine ⟨by omega, fun j hj he => ?_, h1.1⟩
    by_cases h4 : j < 3
    ·exact h1.2 j h4 (by rw [he, o6 j h4])
    ·obtain rfl : j = 3 := by omega
     omega
   have hC8 : ∀ v, Below w7.heap.size w7 v → ∃ b, Zak (ZZ [rw0]) (fun _ => 0) 0 w d6 b v ∧ Zay [] 0 b = Zay [] 0 [[.int wh, .int sz, .slc A2 l2.length c2, .sl 0, .int ck], [.lit 0, .lit 0, .slc none 0 0, .slc none 0 0, .lit 0], [.int wh, .int sz, .slc Am nm cm, .slc Av nv cv, .int ck], [.slc (f i).A0 (L0 i) (f i).c0, .int (L1 i), .slc (f i).A2 (L2 i) (f i).c2, .slc (f i).A3 (L3 i) (f i).c3]] := fun v hb => ⟨_, (hr7.below hb).root' hb6 hge6, rfl⟩
   have hL0' := hL0 i
   have hL2' := hL2 i
   have hL3' := hL3 i
   have row0 : ∀ v, Below w.heap.size w v → k54.C v (f i).A0 (L0 i) (rd_T52 l3 i).f0 := fun v hb => by rw [← hL0']; exact ((hf i hlt).below hb).h0
   have row2 : ∀ v, Below w.heap.size w v → (Kd.int .i64).C v (f i).A2 (rd_T52 l3 i).f2.length (rd_T52 l3 i).f2 := fun v hb => ((hf i hlt).below hb).h2
   have row3 : ∀ v, Below w.heap.size w v → (Kd.int .i64).C v (f i).A3 (rd_T52 l3 i).f3.length (rd_T52 l3 i).f3 := fun v hb => ((hf i hlt).below hb).h3
   obtain ⟨st0, st2, st3⟩ := hst i hlt
   have hfin2 : ∀ (d' : Nat → Nat) (a' : Act) (v : World) (Aw : Option Addr) (nw cw : Nat), Below w.heap.size w v → (∀ q, q < 3 → w.heap.size ≤ d' q) → Rel (ZZ [rw0]) d' (St.of 6 42 [(1, .ptr 0 0), (2, .ptr 1 0), (3, .ptr 2 0), (17, .v (.sl 0)), (18, .v (.int (l3.length : Nat))), (19, .v (.int (i : Nat)))] [[.int wh, .int sz, .slc A2 l2.length c2, .sl 0, .int ck], [.lit 0, .lit 0, .slc none 0 0, .slc none 0 0, .lit 0], [.int wh, .int sz, .slc Am nm cm, .slc Aw nw cw, .int ck]]) a' → Zak (ZZ [rw0]) d' 3 v d' [[.int wh, .int sz, .slc A2 l2.length c2, .sl 0, .int ck], [.lit 0, .lit 0, .slc none 0 0, .slc none 0 0, .lit 0], [.int wh, .int sz, .slc Am nm cm, .slc Aw nw cw, .int ck]] v → Zbe w v d' ⟨wh, sz, l2, l3.take (i + 1), ck⟩ (.slice Am nm cm) (.slice Aw nw cw) → Qk .normal a' v := ?fin2
   case fin2 =>
    intro d8 a8 w8 Aw nw cw hb8 hge8 hR8 hr8 hAp8
    subst hQk
    refine ZaF Zag hm (hX0 d8 3 w8 hb8 hge8) 900 _ _ d8 a8 w8 hk6.2 hR8 hr8 ?_
    generalize hQ : Owes _ _ _ _ _ _ = Q
    generalize hn2 : l2.length = n2
    generalize hnL2 : l3.length = nL2
    cbv
    subst hQ hn2 hnL2
    intro hk9 d9 a9 w9 hR9 hr9
    have o9 : ∀ q, q < 3 → d9 q = d8 q := fun q hq => hr9.old q hq
    refine IH a9 w9 ⟨i + 1, d9, Am, nm, cm, Aw, nw, cw, hlt, by omega, Zar hb8 hr9.upd (bxg d8 hge8) hb8.size, fun q hq => by rw [o9 q hq]; exact hge8 q hq, hR9.carry rfl ⟨⟨rfl, rfl, trivial⟩, ⟨rfl, rfl, trivial⟩, ⟨rfl, rfl, trivial⟩, ⟨rfl, rfl, trivial⟩, ⟨rfl, rfl, trivial⟩, ⟨rfl, ?_, trivial⟩, trivial⟩ rfl, hr9.reroot, (hAp8.step hr9.upd).congr o9⟩
    rw [hO]
    show Value.int .i64 ((i + 1 : Nat) : Int) = Value.int .i64 (wrap64 ((i : Int) + 1))
    congr 1
    unfold wrap64
    omega
   have hpan : ∀ (c : List PanicEntry) (a : Act) (w : World) (dst : Option Tmp) (v : Value), Qk (Exit.panic c) (a.put dst v) w → Qk (Exit.panic c) a w := fun c a w dst v h => by subst hQk; exact ZaR Zag _ c a w dst v h
   clear hQk
   refine ZaP (i := 4) rfl (by kernel_rfl) (by kernel_rfl) fun K hK => ?_
   obtain ⟨u0, w8, run0, R0, hb8, -⟩ := ZbG (P := Tryz.prog) k54 (W := w7) w7.heap.size 50 54 _ (.agg #[.int .i64 0, .int .i64 0, .int .i64 0, .int .i64 0, .int .i64 0, .int .i64 0, .int .i64 0, .int .i64 0, .int .i64 0, .bool false]) 80 Tryz.underlying50 info54 rfl (by decide) (by omega) (.slice none 0 0) (rd_T52 l3 i).f0 (f i).A0 (L0 i) (f i).c0 (fun _ => True) (.inl rfl) (Kd.R_nil _ _ _ _ _) (row0 w7 hb7) (fun _ _ _ _ _ h => h) (fun _ _ => trivial) (Nat.le_refl _) (Nat.le_trans (Nat.mul_le_mul_right 80 (Nat.le_trans (Nat.le_of_eq hL0'.symm) st0)) (by decide))
   refine Zbu rfl rfl (v := .slice none 0 0) rfl (Zaz hR7 (v := .slc (f i).A0 (L0 i) (f i).c0) rfl) run0 (hK _ _ (hC8 _ hb8) ?_)
   obtain ⟨U0, k0, rfl⟩ := Kd.R_slice R0
   have g8 := (hR7.put (d' := d6) (dst := some 27) (fun _ _ => rfl) (Nat.le_refl _) (s := .v (.slc U0 (rd_T52 l3 i).f0.length k0)) (SOk.v ..) rfl).1
   refine ZaP (i := 9) rfl (by kernel_rfl) (by kernel_rfl) fun K hK => ?_
   refine Zbl rfl g8 rfl rfl ⟨_, Tryz.func60, rfl, rfl⟩ rfl (ZgE hL2' (hf i hlt).l2 (row2 w8 (below_step hb7 hb8)) (Nat.lt_of_le_of_lt st2 (by decide))) ?_
   rintro e w9 ⟨v, rfl, R2, hb9⟩
   obtain ⟨U2, k2, rfl⟩ := Kd.R_slice R2
   have hb79 := below_step hb8 hb9
   refine ⟨_, rfl, hK _ _ (hC8 _ hb79) ?_⟩
   have g9 := (g8.put (d' := d6) (dst := some 32) (fun _ _ => rfl) (Nat.le_refl _) (s := .v (.slc U2 (rd_T52 l3 i).f2.length k2)) (SOk.v ..) rfl).1
   refine ZaP (i := 12) rfl (by kernel_rfl) (by kernel_rfl) fun K hK => ?_
   refine Zbl rfl g9 rfl rfl ⟨_, Tryz.func60, rfl, rfl⟩ rfl (ZgE hL3' (hf i hlt).l3 (row3 w9 (below_step hb7 hb79)) (Nat.lt_of_le_of_lt st3 (by decide))) ?_
   rintro e W ⟨v, rfl, R3, hbW⟩
   obtain ⟨U3, k3, rfl⟩ := Kd.R_slice R3
   have hb7W := below_step hb79 hbW
   refine ⟨_, rfl, hK _ _ (hC8 _ hb7W) ?_⟩
   have gW := (g9.put (d' := d6) (dst := some 35) (fun _ _ => rfl) (Nat.le_refl _) (s := .v (.slc U3 (rd_T52 l3 i).f3.length k3)) (SOk.v ..) rfl).1
   have hap : ∀ k, (Value.slice U2 (rd_T52 l3 i).f2.length k2).ownBlock = some k → (Value.slice U3 (rd_T52 l3 i).f3.length k3).ownBlock ≠ some k := fun k h1 h2 => by
    have := Kd.R_lt R2 k h1
    have := Kd.R_base R3 k h2
    omega
   have R0' := Kd.R_below (Kd.R_below R0 hb9) hbW
   have R2' := Kd.R_lower (Kd.R_below R2 hbW) hb8.size
   have R3' := Kd.R_lower R3 hb79.size
   refine Zbi (i := 13) rfl rfl (by kernel_rfl) (hX0 (fun _ => 0) 0 w (Below.refl _ _) (fun i hi => absurd hi (Nat.not_lt_zero _))) gW (Zb0 rfl) rfl hpan (fun v ⟨b, q1, q2⟩ => by rw [ZaO, ZaO] at q2; exact q2 ▸ q1) (hC8 _ hb7W) rfl fun a11 g11 => ?_
   refine ZaP (i := 14) rfl (by kernel_rfl) (by kernel_rfl) fun K hK => ?_
   have e36 : a11.eval (.tmp 36) = .agg #[.slice U0 (rd_T52 l3 i).f0.length k0, .int .i64 (L1 i), .slice U2 (rd_T52 l3 i).f2.length k2, .slice U3 (rd_T52 l3 i).f3.length k3] := Zaz g11 (v := .agg [.slc U0 (rd_T52 l3 i).f0.length k0, .int (L1 i), .slc U2 (rd_T52 l3 i).f2.length k2, .slc U3 (rd_T52 l3 i).f3.length k3]) rfl
   refine Zbj (ps := #[(0, .agg #[.slice U0 (rd_T52 l3 i).f0.length k0, .int .i64 (L1 i), .slice U2 (rd_T52 l3 i).f2.length k2, .slice U3 (rd_T52 l3 i).f3.length k3])]) rfl rfl (by rw [← e36]; simp) (ZcJ W _ _ _ _) (hK _ _ (hC8 _ (below_alloc hb7W _)) ?_)
   have g12 := (g11.put (d' := d6) (dst := some 37) (fun _ _ => rfl) (Nat.le_refl _) (s := .v (.slc (some ⟨W.heap.size, 0, none⟩) 1 1)) (SOk.v ..) rfl).1
   refine ZaP (i := 15) rfl (by kernel_rfl) (by kernel_rfl) fun K hK => ?_
   have hbw := below_step hb7 hb7W
   have hup : Upd (Bx d 3) w7 W := ⟨hb7W.os, hb7W.tape, hb7W.output, hb7W.size, fun k hk _ => hb7W.block k hk⟩
   have hApW := hAp7.step hup
   have hokp : ∀ k, (some k = (Value.slice U0 (rd_T52 l3 i).f0.length k0).ownBlock ∨ some k = (Value.slice U2 (rd_T52 l3 i).f2.length k2).ownBlock ∨ some k = (Value.slice U3 (rd_T52 l3 i).f3.length k3).ownBlock) → w7.heap.size ≤ k := by
    rintro k (h | h | h)
    ·exact Kd.R_base R0' k h.symm
    ·exact Kd.R_base R2' k h.symm
    ·exact Kd.R_base R3' k h.symm
   have hp : k52.M W w.heap.size (fun k => some k = (Value.slice U0 (rd_T52 l3 i).f0.length k0).ownBlock ∨ some k = (Value.slice U2 (rd_T52 l3 i).f2.length k2).ownBlock ∨ some k = (Value.slice U3 (rd_T52 l3 i).f3.length k3).ownBlock) (rd_T52 l3 i) [.slice U0 (rd_T52 l3 i).f0.length k0, .int .i64 (L1 i), .slice U2 (rd_T52 l3 i).f2.length k2, .slice U3 (rd_T52 l3 i).f3.length k3] := by
    rw [← hL1 i]
    exact k52_mkM W _ _ _ (Kd.R_mono (Kd.R_tight rfl (Kd.R_lower R0' hb7.size)) fun _ h => .inl h) (Kd.R_mono (Kd.R_tight rfl (Kd.R_lower R2' hb7.size)) fun _ h => .inr (.inl h)) (Kd.R_mono (Kd.R_tight rfl (Kd.R_lower R3' hb7.size)) fun _ h => .inr (.inr h)) hap
   refine Kd.S_append_step k52 (w0 := w) w.heap.size rfl (.tmp 24) (.tmp 37) 30 52 (.agg #[(.slice none 0 0), (.int .i64 0), (.slice none 0 0), (.slice none 0 0)]) 80 rfl Tryz.underlying30 info52 rfl (by decide) (by omega) (.slice Av nv cv) (l3.take i) (rd_T52 l3 i) [.slice U0 (rd_T52 l3 i).f0.length k0, .int .i64 (L1 i), .slice U2 (rd_T52 l3 i).f2.length k2, .slice U3 (rd_T52 l3 i).f3.length k3] (fun q => some q ≠ (Value.slice Am nm cm).ownBlock ∧ ∀ j, j < 4 → q ≠ d6 j) _ (Zaz g12 (v := .slc Av nv cv) rfl) (Zaz g12 (v := .slc (some ⟨W.heap.size, 0, none⟩) 1 1) rfl) hp (fun k hk => ?_) (fun k hk => ?_) ?_ hbw hbw.size ?_ fun v1 w12 S1 hb12 hg12 hat => ?_
   ·have h := hokp k hk
    exact ⟨⟨fun he => by have := far2 k he.symm; omega, fun j hj he => by have := hlt7 j hj; omega⟩, fun he => by have := (far3 k he.symm).1; omega⟩
   ·have hW := hb7W.size
    exact ⟨fun he => by have := far2 k he.symm; omega, fun j hj he => by have := hlt7 j hj; omega⟩
   ·refine Kd.S_mono (Kd.S_below (Kd.S_step (w1 := w7) (Kd.S_bound hAp.2) fun q hq hlt => hr67.upd.block q hlt fun ⟨j, hj, he⟩ => hq.1.2 j hj he) hb7W) fun q hq => ⟨⟨hq.1.1, fun j hj he => ?_⟩, fun h => by have := hokp q h; have := hq.2.2.1; omega⟩
    by_cases h4 : j < 3
    ·exact hq.1.2 j h4 (by rw [he, o6 j h4])
    ·obtain rfl : j = 3 := by omega
     have := hq.2.2.1
     omega
   ·rw [List.length_take]
    omega
   obtain ⟨V1, kv, rfl⟩ := Kd.S_slice S1
   have hr12 := (hr7.below hb7W).after (S := fun q => some q = (Value.slice Av nv cv).ownBlock) (w' := w12) ⟨hg12.size, fun q hq hn => hg12.block q hq fun he => hn he⟩ fun j hj hs => (far3 _ hs.symm).2.1 j hj rfl
   have hC12 : ∃ b, Zak (ZZ [rw0]) (fun _ => 0) 0 w d6 b w12 ∧ Zay [] 0 b = Zay [] 0 [[.int wh, .int sz, .slc A2 l2.length c2, .sl 0, .int ck], [.lit 0, .lit 0, .slc none 0 0, .slc none 0 0, .lit 0], [.int wh, .int sz, .slc Am nm cm, .slc Av nv cv, .int ck], [.slc (f i).A0 (L0 i) (f i).c0, .int (L1 i), .slc (f i).A2 (L2 i) (f i).c2, .slc (f i).A3 (L3 i) (f i).c3]] := ⟨_, hr12.root' hb12 hge6, rfl⟩
   refine hK _ _ hC12 ?_
   have g13 := (g12.put (d' := d6) (dst := some 38) (fun _ _ => rfl) (Nat.le_refl _) (s := .v (.slc V1 (l3.take i ++ [rd_T52 l3 i]).length kv)) (SOk.v ..) rfl).1
   refine Zbi (i := 16) rfl rfl (by kernel_rfl) (hX0 (fun _ => 0) 0 w (Below.refl _ _) (fun i hi => absurd hi (Nat.not_lt_zero _))) g13 (Zb0 rfl) rfl hpan (fun v ⟨b, q1, q2⟩ => by rw [ZaO, ZaO] at q2; exact q2 ▸ q1) hC12 rfl fun a14 g14 => ?_
   refine Zbk (i := 17) rfl (by kernel_rfl) (by kernel_rfl) fun K hK => Za1 rfl (hX0 d6 4 w12 hb12 hge6) g14 hr12 rfl rfl fun d17 a17 w17 hd17 g17 hr17 => hK _ _ ?_
   refine done_ (by kernel_rfl) ?_
   have o17 : ∀ q, q < 4 → d17 q = d6 q := fun q hq => hr17.old q hq
   refine hfin2 d17 a17 w17 V1 _ kv (Zar hb12 hr17.upd (bxg d6 hge6) hb12.size) (fun q hq => by rw [o17 q (by omega)]; exact hge6 q (by omega)) (g17.carry rfl ⟨⟨rfl, rfl, trivial⟩, ⟨rfl, rfl, trivial⟩, ⟨rfl, rfl, trivial⟩, ⟨rfl, rfl, trivial⟩, ⟨rfl, rfl, trivial⟩, ⟨rfl, rfl, trivial⟩, trivial⟩ rfl) (Zak.head (b := [_, _, _]) (r := [_]) hr17) ⟨?_, ?_⟩
   ·have u1 := Kd.R_bound hAp.1
    have fr : ∀ q, some q = (Value.slice Am nm cm).ownBlock → ∀ j, j < 4 → q ≠ d6 j := fun q hq j hj he => by
     have h := u1.1 q hq.symm
     by_cases h4 : j < 3
     ·exact h.1 j h4 (by rw [he, o6 j h4])
     ·obtain rfl : j = 3 := by omega
      have := h.2.2.1
      omega
    refine Kd.R_mono (Kd.R_step (w1 := w17) (Kd.R_step (w1 := w12) (Kd.R_tight rfl hApW.1) fun q hq hlt => hg12.block q hlt fun he => (far3 q he.symm).2.2 hq) fun q hq hlt => hr17.upd.block q hlt fun ⟨j, hj, he⟩ => fr q hq j hj he) fun q hq j hj he => fr q hq j (by omega) (by rw [he, o17 j (by omega)])
   ·have et : l3.take (i + 1) = l3.take i ++ [rd_T52 l3 i] := by
     rw [List.take_add_one, List.getElem?_eq_getElem hlt]
     congr 1
     show [l3[i]] = [l3.getD i z52]
     rw [List.getD_eq_getElem?_getD, List.getElem?_eq_getElem hlt]
     rfl
    show Kd.S k52 52 w17 w.heap.size _ _ (l3.take (i + 1))
    rw [et]
    exact Kd.S_mono (Kd.S_step (w1 := w17) S1 fun q hq hlt => hr17.upd.block q hlt fun ⟨j, hj, he⟩ => hq.2 j hj he) fun q hq => ⟨hq.1, fun j hj he => hq.2 j (by omega) (by rw [he, o17 j (by omega)])⟩
  ·obtain rfl : i = l3.length := by omega
   refine ZaF Zag hm (hX0 d 3 w' hbw hdw) 900 _ _ d a' w' ⟨hk5.1, hk5.1, hk5.2⟩ hRel hRe ?_
   have i3 : O.lt (l3.length : Int) (l3.length : Int) = false := by
    rw [hO]
    exact decide_eq_false (show ¬ (l3.length : Int) < (l3.length : Int) by omega)
   generalize hQ : Owes _ _ _ _ _ _ = Q
   generalize hnL2 : l3.length = nL2 at i3 ⊢
   generalize hn2 : l2.length = n2
   cbv
   refine ⟨fun hf => absurd i3 (by rw [show O.lt (nL2 : Int) (nL2 : Int) = true from hf]; simp), fun _ => ?_⟩
   cbv
   subst hQ hn2 hnL2
   refine Zav (hX0 d 3 w' hbw hdw) rfl fun d8 w8 hr8 => ⟨_, _, rfl, ?_, Zar hbw hr8.upd (bxg d hdw) hbw.size⟩
   have := (hAp.step hr8.upd).made
   rw [List.take_length] at this
   exact this
 refine Zel (i := 6) (j := 10) rfl rfl (by kernel_rfl) (by kernel_rfl) (by kernel_rfl) (fun K' hK' => ?_) (fun K' hK' => ?_)
 ·refine Zbl rfl hR rfl rfl ⟨_, Tryz.func59, rfl, rfl⟩ rfl (impl_copyMem.calls A2 c2 l2 l2 w1 (Kd.C_below h2 hb) hc2 (ZdA hs2)) ?_
  rintro e w2 ⟨v, rfl, hv, hb2⟩
  obtain ⟨Am, nm, cm, rfl⟩ := R_slice hv
  refine ⟨_, rfl, hK' _ _ ⟨_, hr.below hb2, rfl⟩ ?_⟩
  have g1 := (hR.put (d' := d) (dst := some 12) (fun _ _ => rfl) (Nat.le_refl _) (s := .v (.agg [.slc Am nm cm])) (SOk.v ..) rfl).1
  have hr2 := hr.below hb2
  have hbb2 : Below w.heap.size w w2 := below_step hb hb2
  refine Zbi (i := 9) rfl rfl (by kernel_rfl) (hX0 _ _ _ (Below.refl _ _) (fun i hi => absurd hi (Nat.not_lt_zero _))) g1 (Zb0 rfl) rfl (fun c a w dst v h => by subst hQk; exact ZaR Zag _ c a w dst v h) (fun v ⟨b, q1, q2⟩ => by rw [ZaO, ZaO] at q2; exact q2 ▸ q1) ⟨_, hr2, rfl⟩ rfl fun a3 g3 => ?_
  refine ZaP (i := 10) rfl (by kernel_rfl) (by kernel_rfl) fun K hK => Za1 rfl (hX0 d 2 w2 hbb2 hge) g3 hr2.reroot rfl rfl fun d4 a4 w4 hd4 g4 hr4 => hK _ _ ?_ ?_
  ·exact hCi (r := [_]) hr4 hd4 (Zar hbb2 hr4.upd (bxg d hge) hbb2.size)
  refine Zbk (i := 11) rfl (by kernel_rfl) (by kernel_rfl) fun K hK => Za1 rfl (hX0 d 2 w2 hbb2 hge) g4 hr4 rfl rfl fun d5 a5 w5 hd5 g5 hr5 => hK _ _ ?_
  refine done_ (by kernel_rfl) ?_
  refine hfin d5 a5 w5 Am nm cm ?_ ?_ ?_ ?_ ?_
  ·exact Zar hbb2 hr5.upd (bxg d hge) hbb2.size
  ·have e2 : w2.heap.size ≤ d5 2 := hr5.new 2 (Nat.le_refl _) (by show 2 < 3; omega)
   refine Kd.R_lower (Kd.R_mono (Kd.R_step (w1 := w5) (Kd.R_bound hv) fun q hq hlt => hr5.upd.block q hlt ?_) fun q hq i hi he => ?_) hb.size
   ·rintro ⟨i, hi, he⟩
    have h1 := hlt1 i hi
    have h2 := hq.2.1
    omega
   ·have h2 := hq.2.1
    have h3 := hq.2.2.1
    match i, hi with
    | 0, _ => have := hlt1 0 (by omega); have := hr5.old 0 (by show 0 < 2; omega); omega
    | 1, _ => have := hlt1 1 (by omega); have := hr5.old 1 (by show 1 < 2; omega); omega
    | 2, _ => omega
  ·intro i hi
   match i, hi with
   | 0, _ => rw [hr5.old 0 (by show 0 < 2; omega)]; exact hge 0 (by omega)
   | 1, _ => rw [hr5.old 1 (by show 1 < 2; omega)]; exact hge 1 (by omega)
   | 2, _ => exact Nat.le_trans hbb2.size (hr5.new 2 (Nat.le_refl _) (by show 2 < 3; omega))
  ·exact g5.carry rfl ⟨⟨rfl, rfl, trivial⟩, ⟨rfl, rfl, trivial⟩, ⟨rfl, rfl, trivial⟩, trivial⟩ rfl
  ·exact hr5.reroot
 ·refine Za1 rfl (hX0 d 2 w1 hb hge) hR hr.reroot rfl rfl fun d4 a4 w4 hd4 g4 hr4 => hK' _ _ ?_ ?_
  ·exact hCi (r := [_]) hr4 hd4 (Zar hb hr4.upd (bxg d hge) hb.size)
  have hb4 : Below w.heap.size w w4 := Zar hb hr4.upd (bxg d hge) hb.size
  have hge4 : ∀ i, i < 3 → w.heap.size ≤ d4 i := fun i hi => by
   match i, hi with
   | 0, _ => rw [hd4 0 (by show 0 < 2; omega)]; exact hge 0 (by omega)
   | 1, _ => rw [hd4 1 (by show 1 < 2; omega)]; exact hge 1 (by omega)
   | 2, _ => exact Nat.le_trans hb.size (hr4.new 2 (Nat.le_refl _) (by show 2 < 3; omega))
  have hlt4 : ∀ i, i < 3 → d4 i < w4.heap.size := fun i hi => hr4.lt hi
  refine ZaP (i := 6) rfl (by kernel_rfl) (by kernel_rfl) fun K hK => ?_
  refine Zbl rfl g4 rfl rfl ⟨_, Tryz.func59, rfl, rfl⟩ rfl (impl_copyMem.calls A2 c2 l2 l2 w4 (Kd.C_below h2 hb4) hc2 (ZdA hs2)) ?_
  rintro e w5 ⟨v, rfl, hv, hb5⟩
  obtain ⟨Am, nm, cm, rfl⟩ := R_slice hv
  have hbb5 : Below w.heap.size w w5 := below_step hb4 hb5
  have hr5 := hr4.reroot.below hb5
  refine ⟨_, rfl, hK _ _ (hCi (r := [_]) hr5 hd4 hbb5) ?_⟩
  have g5 := (g4.put (d' := d4) (dst := some 12) (fun _ _ => rfl) (Nat.le_refl _) (s := .v (.agg [.slc Am nm cm])) (SOk.v ..) rfl).1
  refine ZaP (i := 9) rfl (by kernel_rfl) (by kernel_rfl) fun K hK => Za1 rfl (hX0 d4 3 w5 hbb5 hge4) g5 hr5.reroot rfl rfl fun d6 a6 w6 hd6 g6 hr6 => hK _ _ ?_ ?_
  ·exact hCi (r := [_]) hr6 (fun i hi => (hd6 i (by show i < 3; omega)).trans (hd4 i hi)) (Zar hbb5 hr6.upd (bxg d4 hge4) hbb5.size)
  refine Zbk (i := 11) rfl (by kernel_rfl) (by kernel_rfl) fun K hK => Za1 rfl (hX0 d4 3 w5 hbb5 hge4) g6 hr6 rfl rfl fun d7 a7 w7 hd7 g7 hr7 => hK _ _ ?_
  refine done_ (by kernel_rfl) ?_
  refine hfin d7 a7 w7 Am nm cm ?_ ?_ ?_ ?_ ?_
  ·exact Zar hbb5 hr7.upd (bxg d4 hge4) hbb5.size
  ·refine Kd.R_lower (Kd.R_mono (Kd.R_step (w1 := w7) (Kd.R_bound hv) fun q hq hlt => hr7.upd.block q hlt ?_) fun q hq i hi he => ?_) hb4.size
   ·rintro ⟨i, hi, he⟩
    have h1 := hlt4 i hi
    have h2 := hq.2.1
    omega
   ·have h2 := hq.2.1
    have h3 := hlt4 i hi
    rw [hr7.old i hi] at he
    omega
  ·intro i hi
   rw [hr7.old i hi]
   exact hge4 i hi
  ·exact g7.carry rfl ⟨⟨rfl, rfl, trivial⟩, ⟨rfl, rfl, trivial⟩, ⟨rfl, rfl, trivial⟩, trivial⟩ rfl
  ·exact hr7.reroot
theorem Zdj.walk (wh sz ck : Int) (A2 : Option Addr) (c2 : Nat) (l2 : List Int) (A3 : Option Addr) (c3 : Nat) (l3 : List S52) (w : World) (h2 : (Kd.int .i64).C w A2 l2.length l2) (hc2 : l2.length ≤ c2) (h3 : k52.C w A3 l3.length l3) (hc3 : l3.length ≤ c3) (hs2 : l2.length < 17592186044416) (hs3 : l3.length ≤ 1000000000) (hst : ∀ i : Nat, i < l3.length → (rd_T52 l3 i).f0.length ≤ 1000000000 ∧ (rd_T52 l3 i).f2.length ≤ 1000000000 ∧ (rd_T52 l3 i).f3.length ≤ 1000000000) :
 Calls Tryz.prog 22 #[crV wh sz A2 l2.length c2 A3 l3.length c3 ck] w fun e w' => ∃ v2 v3, e = .returned (cwV ⟨wh, sz, l2, l3, ck⟩ v2 v3) ∧ Made w w' ⟨wh, sz, l2, l3, ck⟩ v2 v3 ∧ Below w.heap.size w w' := by
 obtain ⟨O, hO⟩ : ∃ O, O = std := ⟨_, rfl⟩
 obtain ⟨f, hf, hrow⟩ := Zbm c3 h3
 obtain ⟨L0, hL0⟩ : ∃ M : Int → Nat, ∀ i, (rd_T52 l3 i).f0.length = M i := ⟨_, fun _ => rfl⟩
 obtain ⟨L1, hL1⟩ : ∃ M : Int → Int, ∀ i, (rd_T52 l3 i).f1 = M i := ⟨_, fun _ => rfl⟩
 obtain ⟨L2, hL2⟩ : ∃ M : Int → Nat, ∀ i, (rd_T52 l3 i).f2.length = M i := ⟨_, fun _ => rfl⟩
 obtain ⟨L3, hL3⟩ : ∃ M : Int → Nat, ∀ i, (rd_T52 l3 i).f3.length = M i := ⟨_, fun _ => rfl⟩
 obtain ⟨rw0, hrw0⟩ : ∃ r : Row, r = { a := A3, g := (A3.getD ⟨0, 0, none⟩).block, p := (A3.getD ⟨0, 0, none⟩).off, n := l3.length, c := c3, sz := 4, get := fun i => [.slc (f i).A0 (L0 i) (f i).c0, .int (L1 i), .slc (f i).A2 (L2 i) (f i).c2, .slc (f i).A3 (L3 i) (f i).c3] } := ⟨_, rfl⟩
 have e6 : rowT A3 c3 l3 f = rw0 := by
  rw [hrw0]
  unfold rowT ZaA thC
  simp only [hL0, hL1, hL2, hL3]
 have hRow : ∀ r, ZaV (ZZ [rw0]) (Bx (fun _ => 0) 0) w r := ZaG (hrow (ZZ [rw0]) 0 _ (by rw [e6, hrw0]; rfl) fun a _ ⟨i, hi, _⟩ => absurd hi (Nat.not_lt_zero _))
 have hX0 : ∀ (d : Nat → Nat) (n : Nat) (w' : World), Below w.heap.size w w' → (∀ i, i < n → w.heap.size ≤ d i) → CxOk Tryz.prog (mkXR O [] [] [rw0]) d n w' := fun d n w' hb hge => Zaw hO ZW Zap (fun r => ZeV (hRow r) hb hge)
 refine ZaD (X := mkXR O [] [] [rw0]) (d1 := fun _ => 0) Tryz.func22 rfl (by kernel_rfl) hm (hX0 _ _ _ (Below.refl _ _) (fun i hi => absurd hi (Nat.not_lt_zero _))) [.agg [.int wh, .int sz, .slc A2 l2.length c2, .slc A3 l3.length c3, .int ck]] 6 900 (Nat.le_of_ble_eq_true rfl) ?_
 generalize hQ : Owes _ _ _ _ _ _ = Q
 generalize hn2 : l2.length = n2
 generalize hn3 : l3.length = n3
 cbv
 subst hQ hn2 hn3
 intro hk d a w1 hR hr li hs hmem
 have hb : Below w.heap.size w w1 := hr.upd.below fun k ⟨i, hi, _⟩ => by omega
 obtain rfl := Zda hs (by kernel_rfl)
 clear hs
 generalize hQk : wpK Tryz.prog _ _ = Qk
 have bxg : ∀ (d : Nat → Nat) {n : Nat}, (∀ i, i < n → w.heap.size ≤ d i) → ∀ q, Bx d n q → w.heap.size ≤ q := fun d n h q ⟨i, hi, he⟩ => by rw [he]; exact h i hi
 have hge : ∀ i, i < 2 → w.heap.size ≤ d i := fun i hi => hr.new i (Nat.zero_le _) hi
 have hlt1 : ∀ i, i < 2 → d i < w1.heap.size := fun i hi => hr.lt hi
 have hCi : ∀ {d1 : Nat → Nat} {n1 : Nat} {v1 : World} {d' : Nat → Nat} {r : List (List AV)} {v : World}, Zak (ZZ [rw0]) d1 n1 v1 d' ([[.int wh, .int sz, .slc A2 l2.length c2, .slc A3 l3.length c3, .int ck], [.lit 0, .lit 0, .slc none 0 0, .slc none 0 0, .lit 0]] ++ r) v → (∀ i, i < 2 → d' i = d i) → Below w.heap.size w v → ∃ b, Zak (ZZ [rw0]) (fun _ => 0) 0 w d b v ∧ Zay [] 0 b = Zay [] 0 [[.int wh, .int sz, .slc A2 l2.length c2, .slc A3 l3.length c3, .int ck], [.lit 0, .lit 0, .slc none 0 0, .slc none 0 0, .lit 0]] := fun h hd hb => ⟨_, (h.head.congr (X := mkXR O [] [] [rw0]) fun i hi => (hd i hi).symm).root hb hge, rfl⟩
 have hfin : ∀ (d' : Nat → Nat) (a' : Act) (w' : World) (Am : Option Addr) (nm cm : Nat), Below w.heap.size w w' → (Kd.int .i64).R 3 w' w.heap.size (fun q => ∀ i, i < 3 → q ≠ d' i) (.slice Am nm cm) l2 → (∀ i, i < 3 → w.heap.size ≤ d' i) → Rel (ZZ [rw0]) d' (St.of 6 45 [(1, .ptr 0 0), (2, .ptr 1 0), (3, .ptr 2 0)] [[.int wh, .int sz, .slc A2 l2.length c2, .slc A3 l3.length c3, .int ck], [.lit 0, .lit 0, .slc none 0 0, .slc none 0 0, .lit 0], [.int wh, .int sz, .slc Am nm cm, .slc none 0 0, .int ck]]) a' → Zak (ZZ [rw0]) d' 3 w' d' [[.int wh, .int sz, .slc A2 l2.length c2, .slc A3 l3.length c3, .int ck], [.lit 0, .lit 0, .slc none 0 0, .slc none 0 0, .lit 0], [.int wh, .int sz, .slc Am nm cm, .slc none 0 0, .int ck]] w' → Qk .normal a' w' := ?fin
 case fin =>
  intro d3 a3 w3 Am nm cm hb3 hv3 hge3 hR3 hr3
  subst hQk
  have hr3' : Zak (ZZ [rw0]) d3 3 w3 d3 [[.int wh, .int sz, .slc A2 l2.length c2, .sl 0, .int ck], [.lit 0, .lit 0, .slc none 0 0, .slc none 0 0, .lit 0], [.int wh, .int sz, .slc Am nm cm, .slc none 0 0, .int ck]] w3 := hr3.same (by subst hrw0; rfl)
  refine ZaF Zag hm (hX0 d3 3 w3 hb3 hge3) 900 _ _ d3 a3 w3 hk (hR3.weaken (dep := 6) (n := 45) (l := [(1, .ptr 0 0), (2, .ptr 1 0), (3, .ptr 2 0)]) (b := [[.int wh, .int sz, .slc A2 l2.length c2, .sl 0, .int ck], [.lit 0, .lit 0, .slc none 0 0, .slc none 0 0, .lit 0], [.int wh, .int sz, .slc Am nm cm, .slc none 0 0, .int ck]]) rfl ⟨rfl, rfl, rfl, trivial⟩ (ZaJ _ _ rfl)) hr3' ?_
  obtain ⟨nL, hnL⟩ : ∃ n : Nat, n = l3.length := ⟨_, rfl⟩
  rw [← hnL] at hrw0
  generalize hQ : Owes _ _ _ _ _ _ = Q
  rw [hrw0]
  generalize hn2 : l2.length = n2
  cbv
  subst hQ hn2 hnL
  intro hk5 d5 a5 w5 hR5 hr5
  have hb5 : Below w.heap.size w w5 := Zar hb3 hr5.upd (bxg d3 hge3) hb3.size
  have hge5 : ∀ i, i < 3 → w.heap.size ≤ d5 i := fun i hi => by rw [hr5.old i hi]; exact hge3 i hi
  refine ZaT (l3.length + 1) ?_
  refine ZaX (fun kk a' w' => ∃ (i : Nat) (d : Nat → Nat) (Am : Option Addr) (nm cm : Nat) (Av : Option Addr) (nv cv : Nat), i ≤ l3.length ∧ l3.length - i < kk ∧ Below w.heap.size w w' ∧ (∀ q, q < 3 → w.heap.size ≤ d q) ∧ Rel (ZZ [rw0]) d (St.of 6 45 [(1, .ptr 0 0), (2, .ptr 1 0), (3, .ptr 2 0), (17, .v (.sl 0)), (18, .v (.int (l3.length : Nat))), (19, .v (.int (i : Nat)))] [[.int wh, .int sz, .slc A2 l2.length c2, .sl 0, .int ck], [.lit 0, .lit 0, .slc none 0 0, .slc none 0 0, .lit 0], [.int wh, .int sz, .slc Am nm cm, .slc Av nv cv, .int ck]]) a' ∧ Zak (ZZ [rw0]) d 3 w' d [[.int wh, .int sz, .slc A2 l2.length c2, .sl 0, .int ck], [.lit 0, .lit 0, .slc none 0 0, .slc none 0 0, .lit 0], [.int wh, .int sz, .slc Am nm cm, .slc Av nv cv, .int ck]] w' ∧ Zbe w w' d ⟨wh, sz, l2, l3.take i, ck⟩ (.slice Am nm cm) (.slice Av nv cv)) (fun a' w' ⟨i, d, Am, nm, cm, Av, nv, cv, h1, h2, _⟩ => by omega) (fun kk a' w' IH hI => ?_) _ _ _ ?_
  rotate_left
  ·refine ⟨0, d5, Am, nm, cm, none, 0, 0, Nat.zero_le _, by omega, hb5, hge5, ?_, hr5.reroot, ?_⟩
   ·refine hR5.carry rfl ⟨⟨rfl, rfl, trivial⟩, ⟨rfl, rfl, trivial⟩, ⟨rfl, rfl, trivial⟩, ⟨rfl, rfl, trivial⟩, ⟨rfl, rfl, trivial⟩, ⟨rfl, rfl, trivial⟩, trivial⟩ rfl
   ·exact ⟨Kd.R_step (Kd.R_mono hv3 fun q hq i hi => by rw [hr5.old i hi]; exact hq i hi) (fun q hq hlt => hr5.upd.block q hlt fun ⟨i, hi, he⟩ => hq i hi (by rw [he, hr5.old i hi])), Kd.S_nil _ _ _ _ _⟩
  obtain ⟨i, d, Am, nm, cm, Av, nv, cv, hi, hkk, hbw, hdw, hRel, hRe, hAp⟩ := hI
  by_cases hlt : i < l3.length
  ·refine ZaF Zag hm (hX0 d 3 w' hbw hdw) 16 _ _ d a' w' ⟨hk5.1, hk5.1, hk5.2⟩ hRel hRe ?_
   have i3 : O.lt (i : Int) (l3.length : Int) = true := by
    rw [hO]
    exact decide_eq_true (show (i : Int) < (l3.length : Int) by omega)
   have i4 : O.inb (i : Int) l3.length = true := by
    rw [hO]
    show (decide (0 ≤ (i : Int)) && decide ((i : Int) < (l3.length : Int))) = true
    rw [Bool.and_eq_true, decide_eq_true_eq, decide_eq_true_eq]
    omega
   obtain ⟨nL, hnL⟩ : ∃ n : Nat, n = l3.length := ⟨_, rfl⟩
   rw [← hnL] at hrw0 i3 i4 ⊢
   generalize hQ : Owes _ _ _ _ _ _ = Q
   rw [hrw0]
   generalize hn2 : l2.length = n2
   cbv
   refine ⟨fun _ => ?_, fun hf => absurd i3 (by rw [show O.lt (i : Int) (nL : Int) = false from hf]; simp)⟩
   cbv
   refine ⟨i4, ?_⟩
   cbv
   subst hQ hn2 hnL
   intro hk6 d6 a6 w6 hR6 hr6
   have o6 : ∀ q, q < 3 → d6 q = d q := fun q hq => hr6.old q hq
   have hge6 : ∀ q, q < 4 → w.heap.size ≤ d6 q := fun q hq => if h : q < 3 then (by rw [o6 q h]; exact hdw q h) else Nat.le_trans hbw.size (hr6.new q (Nat.le_of_not_lt h) hq)
   have hb6 : Below w.heap.size w w6 := Zar hbw hr6.upd (bxg d hdw) hbw.size
   have hlt6 : ∀ q, q < 4 → d6 q < w6.heap.size := fun q hq => hr6.lt hq
   refine Zct Zag hm (hX0 (fun _ => 0) 0 w (Below.refl _ _) (fun i hi => absurd hi (Nat.not_lt_zero _))) (hX0 d6 4 w6 hb6 hge6) (fun b v h => h.root' hb6 hge6) (W := []) hk6.1 rfl hR6 hr6.reroot ?_
   obtain ⟨nL, hnL⟩ : ∃ n : Nat, n = l3.length := ⟨_, rfl⟩
   rw [← hnL] at hrw0
   generalize hQ : Zeq _ _ _ _ _ _ _ _ _ _ _ _ _ _ = Q
   generalize hn2 : l2.length = n2
   generalize hnL2 : l3.length = nL2
   rw [hrw0]
   cbv
   subst hQ hn2 hnL hnL2
   intro li a7 w7 hs hR7 hr7
   obtain rfl := Zda hs (by kernel_rfl)
   clear hs
   generalize hQk : wpK Tryz.prog _ _ = Qk
   have hr67 := hr6.comp hr7
   have hAp7 : Zbe w w7 d ⟨wh, sz, l2, l3.take i, ck⟩ (.slice Am nm cm) (.slice Av nv cv) := hAp.step hr67.upd
   have n3 : w'.heap.size ≤ d6 3 := hr6.new 3 (Nat.le_refl _) (by show 3 < 4; omega)
   have hb7 : Below w.heap.size w w7 := Zar hb6 hr7.upd (bxg d6 hge6) hb6.size
   have hlt7 : ∀ q, q < 4 → d6 q < w7.heap.size := fun q hq => hr7.lt hq
   have hsz : w'.heap.size ≤ w7.heap.size := hr67.upd.size
   have far2 : ∀ q, (Value.slice Am nm cm).ownBlock = some q → q < w7.heap.size := fun q hq => Kd.R_lt hAp7.1 q hq
   have far3 : ∀ q, (Value.slice Av nv cv).ownBlock = some q → q < w7.heap.size ∧ (∀ j, j < 4 → q ≠ d6 j) ∧ some q ≠ (Value.slice Am nm cm).ownBlock := fun q hq => by
    obtain ⟨_, hu⟩ := Kd.S_bound hAp.2
    have h0 := hu.1 q hq
    have h1 := h0.1
    have h2 := h0.2.2.1
    refine ⟨by omega, fun j hj he => ?_, h1.1⟩
    by_cases h4 : j < 3
    ·exact h1.2 j h4 (by rw [he, o6 j h4])
    ·obtain rfl : j = 3 := by omega
     omega
   have hC8 : ∀ v, Below w7.heap.size w7 v → ∃ b, Zak (ZZ [rw0]) (fun _ => 0) 0 w d6 b v ∧ Zay [] 0 b = Zay [] 0 [[.int wh, .int sz, .slc A2 l2.length c2, .sl 0, .int ck], [.lit 0, .lit 0, .slc none 0 0, .slc none 0 0, .lit 0], [.int wh, .int sz, .slc Am nm cm, .slc Av nv cv, .int ck], [.slc (f i).A0 (L0 i) (f i).c0, .int (L1 i), .slc (f i).A2 (L2 i) (f i).c2, .slc (f i).A3 (L3 i) (f i).c3]] := fun v hb => ⟨_, (hr7.below hb).root' hb6 hge6, rfl⟩
   have hL0' := hL0 i
   have hL2' := hL2 i
   have hL3' := hL3 i
   have row0 : ∀ v, Below w.heap.size w v → k54.C v (f i).A0 (L0 i) (rd_T52 l3 i).f0 := fun v hb => by rw [← hL0']; exact ((hf i hlt).below hb).h0
   have row2 : ∀ v, Below w.heap.size w v → (Kd.int .i64).C v (f i).A2 (rd_T52 l3 i).f2.length (rd_T52 l3 i).f2 := fun v hb => ((hf i hlt).below hb).h2
   have row3 : ∀ v, Below w.heap.size w v → (Kd.int .i64).C v (f i).A3 (rd_T52 l3 i).f3.length (rd_T52 l3 i).f3 := fun v hb => ((hf i hlt).below hb).h3
   obtain ⟨st0, st2, st3⟩ := hst i hlt
   have hfin2 : ∀ (d' : Nat → Nat) (a' : Act) (v : World) (Aw : Option Addr) (nw cw : Nat), Below w.heap.size w v → (∀ q, q < 3 → w.heap.size ≤ d' q) → Rel (ZZ [rw0]) d' (St.of 6 45 [(1, .ptr 0 0), (2, .ptr 1 0), (3, .ptr 2 0), (17, .v (.sl 0)), (18, .v (.int (l3.length : Nat))), (19, .v (.int (i : Nat)))] [[.int wh, .int sz, .slc A2 l2.length c2, .sl 0, .int ck], [.lit 0, .lit 0, .slc none 0 0, .slc none 0 0, .lit 0], [.int wh, .int sz, .slc Am nm cm, .slc Aw nw cw, .int ck]]) a' → Zak (ZZ [rw0]) d' 3 v d' [[.int wh, .int sz, .slc A2 l2.length c2, .sl 0, .int ck], [.lit 0, .lit 0, .slc none 0 0, .slc none 0 0, .lit 0], [.int wh, .int sz, .slc Am nm cm, .slc Aw nw cw, .int ck]] v → Zbe w v d' ⟨wh, sz, l2, l3.take (i + 1), ck⟩ (.slice Am nm cm) (.slice Aw nw cw) → Qk .normal a' v := ?fin2
   case fin2 =>
    intro d8 a8 w8 Aw nw cw hb8 hge8 hR8 hr8 hAp8
    subst hQk
    refine ZaF Zag hm (hX0 d8 3 w8 hb8 hge8) 900 _ _ d8 a8 w8 hk6.2 hR8 hr8 ?_
    generalize hQ : Owes _ _ _ _ _ _ = Q
    generalize hn2 : l2.length = n2
    generalize hnL2 : l3.length = nL2
    cbv
    subst hQ hn2 hnL2
    intro hk9 d9 a9 w9 hR9 hr9
    have o9 : ∀ q, q < 3 → d9 q = d8 q := fun q hq => hr9.old q hq
    refine IH a9 w9 ⟨i + 1, d9, Am, nm, cm, Aw, nw, cw, hlt, by omega, Zar hb8 hr9.upd (bxg d8 hge8) hb8.size, fun q hq => by rw [o9 q hq]; exact hge8 q hq, hR9.carry rfl ⟨⟨rfl, rfl, trivial⟩, ⟨rfl, rfl, trivial⟩, ⟨rfl, rfl, trivial⟩, ⟨rfl, rfl, trivial⟩, ⟨rfl, rfl, trivial⟩, ⟨rfl, ?_, trivial⟩, trivial⟩ rfl, hr9.reroot, (hAp8.step hr9.upd).congr o9⟩
    rw [hO]
    show Value.int .i64 ((i + 1 : Nat) : Int) = Value.int .i64 (wrap64 ((i : Int) + 1))
    congr 1
    unfold wrap64
    omega
   have hpan : ∀ (c : List PanicEntry) (a : Act) (w : World) (dst : Option Tmp) (v : Value), Qk (Exit.panic c) (a.put dst v) w → Qk (Exit.panic c) a w := fun c a w dst v h => by subst hQk; exact ZaR Zag _ c a w dst v h
   clear hQk
   have hinv : ∀ (n : Nat) (b2 b5 b8 b11 b12 b15 : Bool) (a : Act) (v : World), (!b2).toNat + (!b5).toNat + (!b8).toNat + (!b11).toNat + (!b12).toNat + (!b15).toNat = n → (b5 = true → b2 = true) → (b11 = true → b8 = true ∧ b5 = true) → (b15 = true → b12 = true ∧ b11 = true) → Below w7.heap.size w7 v → Rel (ZZ [rw0]) d6 (St.of 6 45 [(1, .ptr 0 0), (2, .ptr 1 0), (3, .ptr 2 0), (17, .v (.sl 0)), (18, .v (.int (l3.length : Nat))), (19, .v (.int (i : Nat))), (24, .v (.slc Av nv cv)), (27, .v (.slc (f i).A0 (L0 i) (f i).c0)), (30, .v (.int (L1 i))), (33, .v (.slc (f i).A2 (L2 i) (f i).c2)), (37, .v (.slc (f i).A3 (L3 i) (f i).c3))] [[.int wh, .int sz, .slc A2 l2.length c2, .sl 0, .int ck], [.lit 0, .lit 0, .slc none 0 0, .slc none 0 0, .lit 0], [.int wh, .int sz, .slc Am nm cm, .slc Av nv cv, .int ck], [.slc (f i).A0 (L0 i) (f i).c0, .int (L1 i), .slc (f i).A2 (L2 i) (f i).c2, .slc (f i).A3 (L3 i) (f i).c3]]) a →
    (∃ u0 u2 u3 : Value, k54.R 54 v w7.heap.size (fun _ => True) u0 (if b5 then (rd_T52 l3 i).f0 else []) ∧ (Kd.int .i64).R 3 v w7.heap.size (fun _ => True) u2 (if b11 then (rd_T52 l3 i).f2 else []) ∧ (Kd.int .i64).R 3 v w7.heap.size (fun _ => True) u3 (if b15 then (rd_T52 l3 i).f3 else []) ∧ (∀ k, u2.ownBlock = some k → u3.ownBlock ≠ some k) ∧
      (b2 = true → b5 = false → a.tmps[25]? = some u0 ∧ ∃ g, u0 = .slice (some ⟨g, 0, none⟩) 0 0) ∧ (b5 = true → a.tmps[28]? = some u0) ∧ (b8 = true → b11 = false → a.tmps[31]? = some u2 ∧ ∃ g, u2 = .slice (some ⟨g, 0, none⟩) 0 0) ∧ (b11 = true → a.tmps[34]? = some u2) ∧ (b12 = true → b15 = false → a.tmps[35]? = some u3 ∧ ∃ g, u3 = .slice (some ⟨g, 0, none⟩) 0 0) ∧ (b15 = true → a.tmps[38]? = some u3)) →
    wpAnyLast Tryz.prog .any (opsOf Tryz.f22 5) Qk (fun v => ∃ b, Zak (ZZ [rw0]) (fun _ => 0) 0 w d6 b v ∧ Zay [] 0 b = Zay [] 0 [[.int wh, .int sz, .slc A2 l2.length c2, .sl 0, .int ck], [.lit 0, .lit 0, .slc none 0 0, .slc none 0 0, .lit 0], [.int wh, .int sz, .slc Am nm cm, .slc Av nv cv, .int ck], [.slc (f i).A0 (L0 i) (f i).c0, .int (L1 i), .slc (f i).A2 (L2 i) (f i).c2, .slc (f i).A3 (L3 i) (f i).c3]]) (dsOf (opsOf Tryz.f22 5).toList) (n + 5) #[true, true, b2, true, true, b5, true, true, b8, true, true, b11, b12, true, true, b15, false, false, false, false, false] a v := by
    intro n
    induction n with
    | zero =>
      rintro b2 b5 b8 b11 b12 b15 a W hn h5 h11 h15 hb7W gW ⟨u0, u2, u3, R0', R2', R3', hap, -, t28, -, t34, -, t38⟩
      have e15 : b15 = true := by
       cases b15
       ·simp at hn
       ·rfl
      obtain ⟨rfl, rfl⟩ := h15 e15
      obtain ⟨rfl, rfl⟩ := h11 rfl
      obtain rfl := h5 rfl
      subst e15
      obtain ⟨U0, k0, rfl⟩ := Kd.R_slice R0'
      obtain ⟨U2, k2, rfl⟩ := Kd.R_slice R2'
      obtain ⟨U3, k3, rfl⟩ := Kd.R_slice R3'
      have gW := ((gW.add (i := 28) (x := .slc U0 (rd_T52 l3 i).f0.length k0) (t28 rfl)).add (i := 34) (x := .slc U2 (rd_T52 l3 i).f2.length k2) (t34 rfl)).add (i := 38) (x := .slc U3 (rd_T52 l3 i).f3.length k3) (t38 rfl)
      refine Zbi (i := 16) rfl rfl (by kernel_rfl) (hX0 (fun _ => 0) 0 w (Below.refl _ _) (fun i hi => absurd hi (Nat.not_lt_zero _))) gW (Zb0 rfl) rfl hpan (fun v ⟨b, q1, q2⟩ => by rw [ZaO, ZaO] at q2; exact q2 ▸ q1) (hC8 _ hb7W) rfl fun a11 g11 => ?_
      refine ZaP (i := 17) rfl (by kernel_rfl) (by kernel_rfl) fun K hK => ?_
      have e36 : a11.eval (.tmp 39) = .agg #[.slice U0 (rd_T52 l3 i).f0.length k0, .int .i64 (L1 i), .slice U2 (rd_T52 l3 i).f2.length k2, .slice U3 (rd_T52 l3 i).f3.length k3] := Zaz g11 (v := .agg [.slc U0 (rd_T52 l3 i).f0.length k0, .int (L1 i), .slc U2 (rd_T52 l3 i).f2.length k2, .slc U3 (rd_T52 l3 i).f3.length k3]) rfl
      refine Zbj (ps := #[(0, .agg #[.slice U0 (rd_T52 l3 i).f0.length k0, .int .i64 (L1 i), .slice U2 (rd_T52 l3 i).f2.length k2, .slice U3 (rd_T52 l3 i).f3.length k3])]) rfl rfl (by rw [← e36]; simp) (ZcJ W _ _ _ _) (hK _ _ (hC8 _ (below_alloc hb7W _)) ?_)
      have g12 := (g11.put (d' := d6) (dst := some 40) (fun _ _ => rfl) (Nat.le_refl _) (s := .v (.slc (some ⟨W.heap.size, 0, none⟩) 1 1)) (SOk.v ..) rfl).1
      refine ZaP (i := 18) rfl (by kernel_rfl) (by kernel_rfl) fun K hK => ?_
      have hbw := below_step hb7 hb7W
      have hup : Upd (Bx d 3) w7 W := ⟨hb7W.os, hb7W.tape, hb7W.output, hb7W.size, fun k hk _ => hb7W.block k hk⟩
      have hApW := hAp7.step hup
      have hokp : ∀ k, (some k = (Value.slice U0 (rd_T52 l3 i).f0.length k0).ownBlock ∨ some k = (Value.slice U2 (rd_T52 l3 i).f2.length k2).ownBlock ∨ some k = (Value.slice U3 (rd_T52 l3 i).f3.length k3).ownBlock) → w7.heap.size ≤ k := by
       rintro k (h | h | h)
       ·exact Kd.R_base R0' k h.symm
       ·exact Kd.R_base R2' k h.symm
       ·exact Kd.R_base R3' k h.symm
      have hp : k52.M W w.heap.size (fun k => some k = (Value.slice U0 (rd_T52 l3 i).f0.length k0).ownBlock ∨ some k = (Value.slice U2 (rd_T52 l3 i).f2.length k2).ownBlock ∨ some k = (Value.slice U3 (rd_T52 l3 i).f3.length k3).ownBlock) (rd_T52 l3 i) [.slice U0 (rd_T52 l3 i).f0.length k0, .int .i64 (L1 i), .slice U2 (rd_T52 l3 i).f2.length k2, .slice U3 (rd_T52 l3 i).f3.length k3] := by
       rw [← hL1 i]
       exact k52_mkM W _ _ _ (Kd.R_mono (Kd.R_tight rfl (Kd.R_lower R0' hb7.size)) fun _ h => .inl h) (Kd.R_mono (Kd.R_tight rfl (Kd.R_lower R2' hb7.size)) fun _ h => .inr (.inl h)) (Kd.R_mono (Kd.R_tight rfl (Kd.R_lower R3' hb7.size)) fun _ h => .inr (.inr h)) hap
      refine Kd.S_append_step k52 (w0 := w) w.heap.size rfl (.tmp 24) (.tmp 40) 30 52 (.agg #[(.slice none 0 0), (.int .i64 0), (.slice none 0 0), (.slice none 0 0)]) 80 rfl Tryz.underlying30 info52 rfl (by decide) (by omega) (.slice Av nv cv) (l3.take i) (rd_T52 l3 i) [.slice U0 (rd_T52 l3 i).f0.length k0, .int .i64 (L1 i), .slice U2 (rd_T52 l3 i).f2.length k2, .slice U3 (rd_T52 l3 i).f3.length k3] (fun q => some q ≠ (Value.slice Am nm cm).ownBlock ∧ ∀ j, j < 4 → q ≠ d6 j) _ (Zaz g12 (v := .slc Av nv cv) rfl) (Zaz g12 (v := .slc (some ⟨W.heap.size, 0, none⟩) 1 1) rfl) hp (fun k hk => ?_) (fun k hk => ?_) ?_ hbw hbw.size ?_ fun v1 w12 S1 hb12 hg12 hat => ?_
      ·have h := hokp k hk
       exact ⟨⟨fun he => by have := far2 k he.symm; omega, fun j hj he => by have := hlt7 j hj; omega⟩, fun he => by have := (far3 k he.symm).1; omega⟩
      ·have hW := hb7W.size
       exact ⟨fun he => by have := far2 k he.symm; omega, fun j hj he => by have := hlt7 j hj; omega⟩
      ·refine Kd.S_mono (Kd.S_below (Kd.S_step (w1 := w7) (Kd.S_bound hAp.2) fun q hq hlt => hr67.upd.block q hlt fun ⟨j, hj, he⟩ => hq.1.2 j hj he) hb7W) fun q hq => ⟨⟨hq.1.1, fun j hj he => ?_⟩, fun h => by have := hokp q h; have := hq.2.2.1; omega⟩
       by_cases h4 : j < 3
       ·exact hq.1.2 j h4 (by rw [he, o6 j h4])
       ·obtain rfl : j = 3 := by omega
        have := hq.2.2.1
        omega
      ·rw [List.length_take]
       omega
      obtain ⟨V1, kv, rfl⟩ := Kd.S_slice S1
      have hr12 := (hr7.below hb7W).after (S := fun q => some q = (Value.slice Av nv cv).ownBlock) (w' := w12) ⟨hg12.size, fun q hq hn => hg12.block q hq fun he => hn he⟩ fun j hj hs => (far3 _ hs.symm).2.1 j hj rfl
      have hC12 : ∃ b, Zak (ZZ [rw0]) (fun _ => 0) 0 w d6 b w12 ∧ Zay [] 0 b = Zay [] 0 [[.int wh, .int sz, .slc A2 l2.length c2, .sl 0, .int ck], [.lit 0, .lit 0, .slc none 0 0, .slc none 0 0, .lit 0], [.int wh, .int sz, .slc Am nm cm, .slc Av nv cv, .int ck], [.slc (f i).A0 (L0 i) (f i).c0, .int (L1 i), .slc (f i).A2 (L2 i) (f i).c2, .slc (f i).A3 (L3 i) (f i).c3]] := ⟨_, hr12.root' hb12 hge6, rfl⟩
      refine hK _ _ hC12 ?_
      have g13 := (g12.put (d' := d6) (dst := some 41) (fun _ _ => rfl) (Nat.le_refl _) (s := .v (.slc V1 (l3.take i ++ [rd_T52 l3 i]).length kv)) (SOk.v ..) rfl).1
      refine Zbi (i := 19) rfl rfl (by kernel_rfl) (hX0 (fun _ => 0) 0 w (Below.refl _ _) (fun i hi => absurd hi (Nat.not_lt_zero _))) g13 (Zb0 rfl) rfl hpan (fun v ⟨b, q1, q2⟩ => by rw [ZaO, ZaO] at q2; exact q2 ▸ q1) hC12 rfl fun a14 g14 => ?_
      refine Zbk (i := 20) rfl (by kernel_rfl) (by kernel_rfl) fun K hK => Za1 rfl (hX0 d6 4 w12 hb12 hge6) g14 hr12 rfl rfl fun d17 a17 w17 hd17 g17 hr17 => hK _ _ ?_
      refine done_ (by kernel_rfl) ?_
      have o17 : ∀ q, q < 4 → d17 q = d6 q := fun q hq => hr17.old q hq
      refine hfin2 d17 a17 w17 V1 _ kv (Zar hb12 hr17.upd (bxg d6 hge6) hb12.size) (fun q hq => by rw [o17 q (by omega)]; exact hge6 q (by omega)) (g17.carry rfl ⟨⟨rfl, rfl, trivial⟩, ⟨rfl, rfl, trivial⟩, ⟨rfl, rfl, trivial⟩, ⟨rfl, rfl, trivial⟩, ⟨rfl, rfl, trivial⟩, ⟨rfl, rfl, trivial⟩, trivial⟩ rfl) (Zak.head (b := [_, _, _]) (r := [_]) hr17) ⟨?_, ?_⟩
      ·have u1 := Kd.R_bound hAp.1
       have fr : ∀ q, some q = (Value.slice Am nm cm).ownBlock → ∀ j, j < 4 → q ≠ d6 j := fun q hq j hj he => by
        have h := u1.1 q hq.symm
        by_cases h4 : j < 3
        ·exact h.1 j h4 (by rw [he, o6 j h4])
        ·obtain rfl : j = 3 := by omega
         have := h.2.2.1
         omega
       refine Kd.R_mono (Kd.R_step (w1 := w17) (Kd.R_step (w1 := w12) (Kd.R_tight rfl hApW.1) fun q hq hlt => hg12.block q hlt fun he => (far3 q he.symm).2.2 hq) fun q hq hlt => hr17.upd.block q hlt fun ⟨j, hj, he⟩ => fr q hq j hj he) fun q hq j hj he => fr q hq j (by omega) (by rw [he, o17 j (by omega)])
      ·have et : l3.take (i + 1) = l3.take i ++ [rd_T52 l3 i] := by
        rw [List.take_add_one, List.getElem?_eq_getElem hlt]
        congr 1
        show [l3[i]] = [l3.getD i z52]
        rw [List.getD_eq_getElem?_getD, List.getElem?_eq_getElem hlt]
        rfl
       show Kd.S k52 52 w17 w.heap.size _ _ (l3.take (i + 1))
       rw [et]
       exact Kd.S_mono (Kd.S_step (w1 := w17) S1 fun q hq hlt => hr17.upd.block q hlt fun ⟨j, hj, he⟩ => hq.2 j hj he) fun q hq => ⟨hq.1, fun j hj he => hq.2 j (by omega) (by rw [he, o17 j (by omega)])⟩
    | succ n IHn =>
      rintro b2 b5 b8 b11 b12 b15 a v hn h5 h11 h15 hb7v gv ⟨u0, u2, u3, R0, R2, R3, hap, t25, t28, t31, t34, t35, t38⟩
      have hrd : ∀ b2 b5 b8 b11 b12 b15 : Bool, Region.ready .any (opsOf Tryz.f22 5) #[true, true, b2, true, true, b5, true, true, b8, true, true, b11, b12, true, true, b15, false, false, false, false, false] = sel (!b2) 2 ++ (sel (b2 && !b5) 5 ++ (sel (!b8) 8 ++ (sel (b8 && b5 && !b11) 11 ++ (sel (!b12) 12 ++ (sel (b12 && b11 && !b15) 15 ++ sel (b5 && b11 && b15) 16))))) := by
       intro b2 b5 b8 b11 b12 b15
       cases b2 <;> cases b5 <;> cases b8 <;> cases b11 <;> cases b12 <;> cases b15 <;> kernel_rfl
      refine Zfw (hrd b2 b5 b8 b11 b12 b15) ?_ fun j hj => ?_
      ·exact Zgr hn
      have hbv := below_step hb7 hb7v
      have hsize : a.tmps.size = 45 := gv.size
      simp only [List.mem_append] at hj
      rcases hj with hj | hj | hj | hj | hj | hj | hj
      all_goals obtain ⟨hc, rfl⟩ := Zgb hj
      ·obtain rfl : b2 = false := by simpa using hc
       obtain rfl : b5 = false := Bool.eq_false_iff.2 fun h => (nomatch h5 h)
       obtain rfl : b11 = false := Bool.eq_false_iff.2 fun h => (nomatch (h11 h).2)
       obtain rfl : b15 = false := Bool.eq_false_iff.2 fun h => (nomatch (h15 h).2)
       have hbn : Below v.heap.size v (v.alloc (.cells #[] 54)) := below_alloc (Below.refl _ _) _
       refine ⟨_, rfl, by kernel_rfl, fun K hK => Zbj rfl rfl (by simp) (ZbY v Tryz.underlying50 I54.choose_spec) (hK _ _ (hC8 _ (below_step hb7v hbn)) ?_)⟩
       exact IHn true false b8 false b12 false _ _ (by simp at hn ⊢; omega) (fun h => (nomatch h)) (fun h => (nomatch h)) (fun h => (nomatch h)) (below_step hb7v hbn) (gv.dead rfl _) ⟨_, u2, u3, ZdY k54 54 _ v hb7v.size, Kd.R_below R2 hbn, Kd.R_below R3 hbn, hap, fun _ _ => ⟨ZcL (by omega), _, rfl⟩, (fun h => (nomatch h)), fun h1 h2 => ⟨ZaK (by decide) (t31 h1 h2).1, (t31 h1 h2).2⟩, (fun h => (nomatch h)), fun h1 h2 => ⟨ZaK (by decide) (t35 h1 h2).1, (t35 h1 h2).2⟩, (fun h => (nomatch h))⟩
      ·obtain ⟨rfl, rfl⟩ : b2 = true ∧ b5 = false := by simpa using hc
       obtain rfl : b11 = false := Bool.eq_false_iff.2 fun h => (nomatch (h11 h).2)
       obtain rfl : b15 = false := Bool.eq_false_iff.2 fun h => (nomatch (h15 h).2)
       obtain ⟨t, g, rfl⟩ := t25 rfl rfl
       obtain ⟨u', v', run, R', hb', hat⟩ := ZbG (P := Tryz.prog) k54 (W := v) w7.heap.size 50 54 _ (.agg #[.int .i64 0, .int .i64 0, .int .i64 0, .int .i64 0, .int .i64 0, .int .i64 0, .int .i64 0, .int .i64 0, .int .i64 0, .bool false]) 80 Tryz.underlying50 info54 rfl (by decide) (by omega) (.slice (some ⟨g, 0, none⟩) 0 0) (rd_T52 l3 i).f0 (f i).A0 (L0 i) (f i).c0 (fun _ => True) (.inr ⟨g, rfl⟩) R0 (row0 v hbv) (fun _ _ _ _ _ h => h) (fun _ _ => trivial) hb7v.size (Nat.le_trans (Nat.mul_le_mul_right 80 (Nat.le_trans (Nat.le_of_eq hL0'.symm) st0)) (by decide))
       have e_ : a.eval (.tmp 27) = .slice (f i).A0 (L0 i) (f i).c0 := Zaz (X := mkXR O [] [] [rw0]) gv (v := .slc (f i).A0 (L0 i) (f i).c0) rfl
       refine ⟨_, rfl, by kernel_rfl, fun K hK => Zbu rfl rfl (eval_of t) e_ run (hK _ _ (hC8 _ (below_step hb7v hb')) ?_)⟩
       exact IHn true true b8 false b12 false _ _ (by simp at hn ⊢; omega) (fun _ => rfl) (fun h => (nomatch h)) (fun h => (nomatch h)) (below_step hb7v hb') (gv.dead rfl _) ⟨u', u2, u3, R', Kd.R_below R2 hb', Kd.R_below R3 hb', hap, (fun _ h => (nomatch h)), fun _ => ZcL (by omega), fun h1 h2 => ⟨ZaK (by decide) (t31 h1 h2).1, (t31 h1 h2).2⟩, (fun h => (nomatch h)), fun h1 h2 => ⟨ZaK (by decide) (t35 h1 h2).1, (t35 h1 h2).2⟩, (fun h => (nomatch h))⟩
      ·obtain rfl : b8 = false := by simpa using hc
       obtain rfl : b11 = false := Bool.eq_false_iff.2 fun h => (nomatch (h11 h).1)
       obtain rfl : b15 = false := Bool.eq_false_iff.2 fun h => (nomatch (h15 h).2)
       have hbn : Below v.heap.size v (v.alloc (.cells #[] 3)) := below_alloc (Below.refl _ _) _
       refine ⟨_, rfl, by kernel_rfl, fun K hK => Zbj rfl rfl (by simp) (ZbY v Tryz.underlying22 I3.choose_spec) (hK _ _ (hC8 _ (below_step hb7v hbn)) ?_)⟩
       exact IHn b2 b5 true false b12 false _ _ (by simp at hn ⊢; omega) h5 (fun h => (nomatch h)) (fun h => (nomatch h)) (below_step hb7v hbn) (gv.dead rfl _) ⟨u0, _, u3, Kd.R_below R0 hbn, ZdY (Kd.int .i64) 3 _ v hb7v.size, Kd.R_below R3 hbn, fun k h1 h2 => (by have := Kd.R_lt R3 k h2; have h1 : some v.heap.size = some k := h1; injection h1 with h1; omega), fun h1 h2 => ⟨ZaK (by decide) (t25 h1 h2).1, (t25 h1 h2).2⟩, fun h => ZaK (by decide) (t28 h), fun _ _ => ⟨ZcL (by omega), _, rfl⟩, (fun h => (nomatch h)), fun h1 h2 => ⟨ZaK (by decide) (t35 h1 h2).1, (t35 h1 h2).2⟩, (fun h => (nomatch h))⟩
      ·obtain ⟨⟨rfl, rfl⟩, rfl⟩ : (b8 = true ∧ b5 = true) ∧ b11 = false := by simpa using hc
       obtain rfl : b15 = false := Bool.eq_false_iff.2 fun h => (nomatch (h15 h).2)
       obtain ⟨t, g, rfl⟩ := t31 rfl rfl
       obtain ⟨u', v', run, R', hb', hat⟩ := ZbG (P := Tryz.prog) (Kd.int .i64) (W := v) w7.heap.size 22 3 _ (.int .i64 0) 8 Tryz.underlying22 info3 rfl (by decide) (by omega) (.slice (some ⟨g, 0, none⟩) 0 0) (rd_T52 l3 i).f2 (f i).A2 (L2 i) (f i).c2 (fun _ => True) (.inr ⟨g, rfl⟩) R2 (hL2' ▸ row2 v hbv) (fun _ _ _ _ _ h => h) (fun _ _ => trivial) hb7v.size (Nat.le_trans (Nat.mul_le_mul_right 8 (Nat.le_trans (Nat.le_of_eq hL2'.symm) st2)) (by decide))
       have e_ : a.eval (.tmp 33) = .slice (f i).A2 (L2 i) (f i).c2 := Zaz (X := mkXR O [] [] [rw0]) gv (v := .slc (f i).A2 (L2 i) (f i).c2) rfl
       refine ⟨_, rfl, by kernel_rfl, fun K hK => Zbu rfl rfl (eval_of t) e_ run (hK _ _ (hC8 _ (below_step hb7v hb')) ?_)⟩
       exact IHn b2 true true true b12 false _ _ (by simp at hn ⊢; omega) h5 (fun _ => ⟨rfl, rfl⟩) (fun h => (nomatch h)) (below_step hb7v hb') (gv.dead rfl _) ⟨u0, u', u3, Kd.R_below R0 hb', R', Kd.R_below R3 hb', fun k h1 h2 => by
        have := Kd.R_lt R3 k h2
        rcases hat with he | ⟨b, he, hle⟩
        ·exact hap k (he.symm.trans h1) h2
        ·rw [he] at h1; injection h1 with h1; omega, fun h1 h2 => ⟨ZaK (by decide) (t25 h1 h2).1, (t25 h1 h2).2⟩, fun h => ZaK (by decide) (t28 h), (fun _ h => (nomatch h)), fun _ => ZcL (by omega), fun h1 h2 => ⟨ZaK (by decide) (t35 h1 h2).1, (t35 h1 h2).2⟩, (fun h => (nomatch h))⟩
      ·obtain rfl : b12 = false := by simpa using hc
       obtain rfl : b15 = false := Bool.eq_false_iff.2 fun h => (nomatch (h15 h).1)
       have hbn : Below v.heap.size v (v.alloc (.cells #[] 3)) := below_alloc (Below.refl _ _) _
       refine ⟨_, rfl, by kernel_rfl, fun K hK => Zbj rfl rfl (by simp) (ZbY v Tryz.underlying22 I3.choose_spec) (hK _ _ (hC8 _ (below_step hb7v hbn)) ?_)⟩
       exact IHn b2 b5 b8 b11 true false _ _ (by simp at hn ⊢; omega) h5 h11 (fun h => (nomatch h)) (below_step hb7v hbn) (gv.dead rfl _) ⟨u0, u2, _, Kd.R_below R0 hbn, Kd.R_below R2 hbn, ZdY (Kd.int .i64) 3 _ v hb7v.size, fun k h1 h2 => (by have := Kd.R_lt R2 k h1; have h2 : some v.heap.size = some k := h2; injection h2 with h2; omega), fun h1 h2 => ⟨ZaK (by decide) (t25 h1 h2).1, (t25 h1 h2).2⟩, fun h => ZaK (by decide) (t28 h), fun h1 h2 => ⟨ZaK (by decide) (t31 h1 h2).1, (t31 h1 h2).2⟩, fun h => ZaK (by decide) (t34 h), fun _ _ => ⟨ZcL (by omega), _, rfl⟩, (fun h => (nomatch h))⟩
      ·obtain ⟨⟨rfl, rfl⟩, rfl⟩ : (b12 = true ∧ b11 = true) ∧ b15 = false := by simpa using hc
       obtain ⟨t, g, rfl⟩ := t35 rfl rfl
       obtain ⟨u', v', run, R', hb', hat⟩ := ZbG (P := Tryz.prog) (Kd.int .i64) (W := v) w7.heap.size 22 3 _ (.int .i64 0) 8 Tryz.underlying22 info3 rfl (by decide) (by omega) (.slice (some ⟨g, 0, none⟩) 0 0) (rd_T52 l3 i).f3 (f i).A3 (L3 i) (f i).c3 (fun _ => True) (.inr ⟨g, rfl⟩) R3 (hL3' ▸ row3 v hbv) (fun _ _ _ _ _ h => h) (fun _ _ => trivial) hb7v.size (Nat.le_trans (Nat.mul_le_mul_right 8 (Nat.le_trans (Nat.le_of_eq hL3'.symm) st3)) (by decide))
       have e_ : a.eval (.tmp 37) = .slice (f i).A3 (L3 i) (f i).c3 := Zaz (X := mkXR O [] [] [rw0]) gv (v := .slc (f i).A3 (L3 i) (f i).c3) rfl
       refine ⟨_, rfl, by kernel_rfl, fun K hK => Zbu rfl rfl (eval_of t) e_ run (hK _ _ (hC8 _ (below_step hb7v hb')) ?_)⟩
       exact IHn b2 b5 b8 true true true _ _ (by simp at hn ⊢; omega) h5 h11 (fun _ => ⟨rfl, rfl⟩) (below_step hb7v hb') (gv.dead rfl _) ⟨u0, u2, u', Kd.R_below R0 hb', Kd.R_below R2 hb', R', fun k h1 h2 => by
        have := Kd.R_lt R2 k h1
        rcases hat with he | ⟨b, he, hle⟩
        ·exact hap k h1 (he.symm.trans h2)
        ·rw [he] at h2; injection h2 with h2; omega, fun h1 h2 => ⟨ZaK (by decide) (t25 h1 h2).1, (t25 h1 h2).2⟩, fun h => ZaK (by decide) (t28 h), fun h1 h2 => ⟨ZaK (by decide) (t31 h1 h2).1, (t31 h1 h2).2⟩, fun h => ZaK (by decide) (t34 h), (fun _ h => (nomatch h)), fun _ => ZcL (by omega)⟩
      ·exfalso
       obtain ⟨⟨rfl, rfl⟩, rfl⟩ : (b5 = true ∧ b11 = true) ∧ b15 = true := by simpa using hc
       obtain ⟨rfl, -⟩ := h15 rfl
       obtain ⟨rfl, -⟩ := h11 rfl
       obtain rfl := h5 rfl
       simp at hn
   refine hinv 6 false false false false false false a7 w7 rfl (fun h => by cases h) (fun h => by cases h) (fun h => by cases h) (Below.refl _ _) (hR7.weaken rfl ⟨rfl, rfl, rfl, rfl, rfl, rfl, rfl, rfl, rfl, rfl, rfl, trivial⟩ (ZaJ _ _ rfl)) ⟨.slice none 0 0, .slice none 0 0, .slice none 0 0, Kd.R_nil _ _ _ _ _, Kd.R_nil _ _ _ _ _, Kd.R_nil _ _ _ _ _, (fun k h => (by simp [Value.ownBlock] at h)), (fun h => (nomatch h)), (fun h => (nomatch h)), (fun h => (nomatch h)), (fun h => (nomatch h)), (fun h => (nomatch h)), (fun h => (nomatch h))⟩
  ·obtain rfl : i = l3.length := by omega
   refine ZaF Zag hm (hX0 d 3 w' hbw hdw) 900 _ _ d a' w' ⟨hk5.1, hk5.1, hk5.2⟩ hRel hRe ?_
   have i3 : O.lt (l3.length : Int) (l3.length : Int) = false := by
    rw [hO]
    exact decide_eq_false (show ¬ (l3.length : Int) < (l3.length : Int) by omega)
   generalize hQ : Owes _ _ _ _ _ _ = Q
   generalize hnL2 : l3.length = nL2 at i3 ⊢
   generalize hn2 : l2.length = n2
   cbv
   refine ⟨fun hf => absurd i3 (by rw [show O.lt (nL2 : Int) (nL2 : Int) = true from hf]; simp), fun _ => ?_⟩
   cbv
   subst hQ hn2 hnL2
   refine Zav (hX0 d 3 w' hbw hdw) rfl fun d8 w8 hr8 => ⟨_, _, rfl, ?_, Zar hbw hr8.upd (bxg d hdw) hbw.size⟩
   have := (hAp.step hr8.upd).made
   rw [List.take_length] at this
   exact this
 refine Zel (i := 6) (j := 10) rfl rfl (by kernel_rfl) (by kernel_rfl) (by kernel_rfl) (fun K' hK' => ?_) (fun K' hK' => ?_)
 ·refine Zbl rfl hR rfl rfl ⟨_, Tryz.func41, rfl, rfl⟩ rfl (spec_l02Copy.calls A2 c2 l2 l2 w1 (Kd.C_below h2 hb) hc2 (Zdu hs2)) ?_
  rintro e w2 ⟨v, rfl, hv, hb2⟩
  obtain ⟨Am, nm, cm, rfl⟩ := R_slice hv
  refine ⟨_, rfl, hK' _ _ ⟨_, hr.below hb2, rfl⟩ ?_⟩
  have g1 := (hR.put (d' := d) (dst := some 12) (fun _ _ => rfl) (Nat.le_refl _) (s := .v (.agg [.slc Am nm cm])) (SOk.v ..) rfl).1
  have hr2 := hr.below hb2
  have hbb2 : Below w.heap.size w w2 := below_step hb hb2
  refine Zbi (i := 9) rfl rfl (by kernel_rfl) (hX0 _ _ _ (Below.refl _ _) (fun i hi => absurd hi (Nat.not_lt_zero _))) g1 (Zb0 rfl) rfl (fun c a w dst v h => by subst hQk; exact ZaR Zag _ c a w dst v h) (fun v ⟨b, q1, q2⟩ => by rw [ZaO, ZaO] at q2; exact q2 ▸ q1) ⟨_, hr2, rfl⟩ rfl fun a3 g3 => ?_
  refine ZaP (i := 10) rfl (by kernel_rfl) (by kernel_rfl) fun K hK => Za1 rfl (hX0 d 2 w2 hbb2 hge) g3 hr2.reroot rfl rfl fun d4 a4 w4 hd4 g4 hr4 => hK _ _ ?_ ?_
  ·exact hCi (r := [_]) hr4 hd4 (Zar hbb2 hr4.upd (bxg d hge) hbb2.size)
  refine Zbk (i := 11) rfl (by kernel_rfl) (by kernel_rfl) fun K hK => Za1 rfl (hX0 d 2 w2 hbb2 hge) g4 hr4 rfl rfl fun d5 a5 w5 hd5 g5 hr5 => hK _ _ ?_
  refine done_ (by kernel_rfl) ?_
  refine hfin d5 a5 w5 Am nm cm ?_ ?_ ?_ ?_ ?_
  ·exact Zar hbb2 hr5.upd (bxg d hge) hbb2.size
  ·have e2 : w2.heap.size ≤ d5 2 := hr5.new 2 (Nat.le_refl _) (by show 2 < 3; omega)
   refine Kd.R_lower (Kd.R_mono (Kd.R_step (w1 := w5) (Kd.R_bound hv) fun q hq hlt => hr5.upd.block q hlt ?_) fun q hq i hi he => ?_) hb.size
   ·rintro ⟨i, hi, he⟩
    have h1 := hlt1 i hi
    have h2 := hq.2.1
    omega
   ·have h2 := hq.2.1
    have h3 := hq.2.2.1
    match i, hi with
    | 0, _ => have := hlt1 0 (by omega); have := hr5.old 0 (by show 0 < 2; omega); omega
    | 1, _ => have := hlt1 1 (by omega); have := hr5.old 1 (by show 1 < 2; omega); omega
    | 2, _ => omega
  ·intro i hi
   match i, hi with
   | 0, _ => rw [hr5.old 0 (by show 0 < 2; omega)]; exact hge 0 (by omega)
   | 1, _ => rw [hr5.old 1 (by show 1 < 2; omega)]; exact hge 1 (by omega)
   | 2, _ => exact Nat.le_trans hbb2.size (hr5.new 2 (Nat.le_refl _) (by show 2 < 3; omega))
  ·exact g5.carry rfl ⟨⟨rfl, rfl, trivial⟩, ⟨rfl, rfl, trivial⟩, ⟨rfl, rfl, trivial⟩, trivial⟩ rfl
  ·exact hr5.reroot
 ·refine Za1 rfl (hX0 d 2 w1 hb hge) hR hr.reroot rfl rfl fun d4 a4 w4 hd4 g4 hr4 => hK' _ _ ?_ ?_
  ·exact hCi (r := [_]) hr4 hd4 (Zar hb hr4.upd (bxg d hge) hb.size)
  have hb4 : Below w.heap.size w w4 := Zar hb hr4.upd (bxg d hge) hb.size
  have hge4 : ∀ i, i < 3 → w.heap.size ≤ d4 i := fun i hi => by
   match i, hi with
   | 0, _ => rw [hd4 0 (by show 0 < 2; omega)]; exact hge 0 (by omega)
   | 1, _ => rw [hd4 1 (by show 1 < 2; omega)]; exact hge 1 (by omega)
   | 2, _ => exact Nat.le_trans hb.size (hr4.new 2 (Nat.le_refl _) (by show 2 < 3; omega))
  have hlt4 : ∀ i, i < 3 → d4 i < w4.heap.size := fun i hi => hr4.lt hi
  refine ZaP (i := 6) rfl (by kernel_rfl) (by kernel_rfl) fun K hK => ?_
  refine Zbl rfl g4 rfl rfl ⟨_, Tryz.func41, rfl, rfl⟩ rfl (spec_l02Copy.calls A2 c2 l2 l2 w4 (Kd.C_below h2 hb4) hc2 (Zdu hs2)) ?_
  rintro e w5 ⟨v, rfl, hv, hb5⟩
  obtain ⟨Am, nm, cm, rfl⟩ := R_slice hv
  have hbb5 : Below w.heap.size w w5 := below_step hb4 hb5
  have hr5 := hr4.reroot.below hb5
  refine ⟨_, rfl, hK _ _ (hCi (r := [_]) hr5 hd4 hbb5) ?_⟩
  have g5 := (g4.put (d' := d4) (dst := some 12) (fun _ _ => rfl) (Nat.le_refl _) (s := .v (.agg [.slc Am nm cm])) (SOk.v ..) rfl).1
  refine ZaP (i := 9) rfl (by kernel_rfl) (by kernel_rfl) fun K hK => Za1 rfl (hX0 d4 3 w5 hbb5 hge4) g5 hr5.reroot rfl rfl fun d6 a6 w6 hd6 g6 hr6 => hK _ _ ?_ ?_
  ·exact hCi (r := [_]) hr6 (fun i hi => (hd6 i (by show i < 3; omega)).trans (hd4 i hi)) (Zar hbb5 hr6.upd (bxg d4 hge4) hbb5.size)
  refine Zbk (i := 11) rfl (by kernel_rfl) (by kernel_rfl) fun K hK => Za1 rfl (hX0 d4 3 w5 hbb5 hge4) g6 hr6 rfl rfl fun d7 a7 w7 hd7 g7 hr7 => hK _ _ ?_
  refine done_ (by kernel_rfl) ?_
  refine hfin d7 a7 w7 Am nm cm ?_ ?_ ?_ ?_ ?_
  ·exact Zar hbb5 hr7.upd (bxg d4 hge4) hbb5.size
  ·refine Kd.R_lower (Kd.R_mono (Kd.R_step (w1 := w7) (Kd.R_bound hv) fun q hq hlt => hr7.upd.block q hlt ?_) fun q hq i hi he => ?_) hb4.size
   ·rintro ⟨i, hi, he⟩
    have h1 := hlt4 i hi
    have h2 := hq.2.1
    omega
   ·have h2 := hq.2.1
    have h3 := hlt4 i hi
    rw [hr7.old i hi] at he
    omega
  ·intro i hi
   rw [hr7.old i hi]
   exact hge4 i hi
  ·exact g7.carry rfl ⟨⟨rfl, rfl, trivial⟩, ⟨rfl, rfl, trivial⟩, ⟨rfl, rfl, trivial⟩, trivial⟩ rfl
  ·exact hr7.reroot
end Go.Proofs.YtgghglocfdcegaaGreat.Xec
