/- Part J of the proof of FnExactCrewStep and FnExactCrewRun (wip/xec, pack.py). No condition. -/
import Derived.Test.YtgghglocfdcegaaGreatKF
namespace Go.Proofs.YtgghglocfdcegaaGreat.Xec
open Go Go.RowKit Go.Proofs.YtgghglocfdcegaaGreat.PFnExactCrewRun Go.Proofs.YtgghglocfdcegaaGreatW.PrintWords
set_option linter.unusedVariables false
set_option linter.unusedSimpArgs false
set_option maxRecDepth 100000
set_option maxHeartbeats 16000000
theorem Zbt.go (wh sz ck pick : Int) (A2 : Option Addr) (n2 c2 : Nat) (A3 : Option Addr) (n3 c3 : Nat) (w : World) (ab : List Int) (l2 : List Int) (l3 : List S52) (k j : Nat) (t : S52) (c : S54) (b e : Int) (st : SS)
 (HA : ∀ w', Below w.heap.size w w' → Calls Tryz.prog 50 #[crV wh sz A2 n2 c2 A3 n3 c3 ck] w' fun e w2 => ∃ v, e = .returned v ∧ (Kd.int .i64).R 3 w2 w'.heap.size (fun _ => True) v ab ∧ Below w'.heap.size w' w2)
 (HC : ∀ w', Below w.heap.size w w' → Calls Tryz.prog 34 #[crV wh sz A2 n2 c2 A3 n3 c3 ck] w' fun e w2 => ∃ v2 v3, e = .returned (.agg #[.int .i64 wh, .int .i64 sz, v2, v3, .int .i64 ck]) ∧ (Kd.int .i64).R 3 w2 w'.heap.size (fun _ => True) v2 l2 ∧ Kd.S k52 52 w2 w'.heap.size (fun k_ => some k_ ≠ v2.ownBlock) v3 l3 ∧ Below w'.heap.size w' w2)
 (HS : ∀ y0 y1 y2 y3 y4 y5 y6 y7 y8 y9 w', Below w.heap.size w w' → Calls Tryz.prog 54 #[crV wh sz A2 n2 c2 A3 n3 c3 ck, .agg #[.int .i64 y0, .int .i64 y1, .int .i64 y2, .int .i64 y3, .int .i64 y4, .int .i64 y5, .int .i64 y6, .int .i64 y7, .int .i64 y8, .bool y9]] w' fun e w2 => ∃ v, e = .returned (Tv (st y0 y1 y2 y3 y4 y5 y6 y7 y8 y9) v) ∧ (Kd.int .i64).R 3 w2 w'.heap.size (fun _ => True) v (st y0 y1 y2 y3 y4 y5 y6 y7 y8 y9).m ∧ Below w'.heap.size w' w2)
 (hMod : 0 ≤ Zal.F pick ab.length ∧ Zal.F pick ab.length < ab.length)
 (hab : ab ≠ []) (hkI : rd ab (Zal.F pick ab.length) = (k : Int)) (hP : Pick l3 k j t c b e) :
 Calls Tryz.prog 27 #[crV wh sz A2 n2 c2 A3 n3 c3 ck, .int .i64 pick] w (Zer w wh sz ck (CrS Zb.F st l2 wh c (Pop.at (rd_T54 t.f0) t.f1 t.f0.length)) (crL l3 k j t (if b = -1 then ck else b) e ck (CrS Zb.F st l2 wh c (Pop.at (rd_T54 t.f0) t.f1 t.f0.length)))) := by
 generalize hPP : Pop.at (rd_T54 t.f0) t.f1 t.f0.length = PP
 obtain ⟨O, hO⟩ : ∃ O, O = std := ⟨_, rfl⟩
 have eqt : ∀ x y : Int, O.eq x y = true → x = y := fun x y h => by
  rw [hO] at h
  exact beq_iff_eq.1 h
 have teq : ∀ x y : Int, x = y → O.eq x y = true := fun x y h => by
  rw [hO]
  exact beq_iff_eq.2 h
 have eqf : ∀ x y : Int, O.eq x y = false → x ≠ y := fun x y h he => fls (teq x y he) h
 have hadd : ∀ x y : Int, O.add x y = wrap64 (x + y) := fun x y => by
  rw [hO]
  rfl
 have nott : ∀ x : Bool, O.not x = true → x = false := fun x h => by
  rw [hO] at h
  cases x
  ·rfl
  ·cases h
 have notf : ∀ x : Bool, O.not x = false → x = true := fun x h => by
  rw [hO] at h
  cases x
  ·cases h
  ·rfl
 refine ZaD (X := mkXR O [(51, Zal.g)] [] []) (d1 := fun _ => 0) Tryz.func27 rfl (by kernel_rfl) hm (Zaw hO (all_cons Zal.fn ZW) Zap fun r => Zax rfl) [.agg [.int wh, .int sz, .slc A2 n2 c2, .slc A3 n3 c3, .int ck], .int pick] 8 900 (Nat.le_of_ble_eq_true rfl) ?_
 generalize hQ : Owes _ _ _ _ _ _ = Q
 cbv
 subst hQ
 refine ZaZ hm rfl rfl rfl ⟨_, Tryz.func50, rfl, rfl⟩ rfl fun d w1 hr => ⟨_, HA w1 (hr.upd.below fun k ⟨i, hi, _⟩ => by omega), ?_⟩
 rintro e1 w2 ⟨v, rfl, hv, hb⟩
 have hA1 := Kd.R_base hv
 have hA2 := Kd.R_lt hv
 obtain ⟨A, cA, rfl, hcA, hC⟩ := Kd.R_reads hv
 have hb1 : Below w.heap.size w w2 := below_step (hr.upd.below fun k ⟨i, hi, _⟩ => by omega) hb
 have q0 := hr.lt (i := 0) (Nat.zero_lt_succ _)
 have q1 := hr.lt (i := 1) (Nat.succ_lt_succ (Nat.zero_lt_succ _))
 have p0 := hr.new 0 (Nat.le_refl _) (Nat.zero_lt_succ _)
 have p1 := hr.new 1 (Nat.zero_le _) (Nat.succ_lt_succ (Nat.zero_lt_succ _))
 have hr2 := (hr.below hb).reroot.rows (rs' := [rowI A cA ab]) (by intro cs hcs; rcases List.mem_cons.1 hcs with rfl | hcs; · rfl
                                                                   rcases List.mem_cons.1 hcs with rfl | hcs; · rfl
                                                                   cases hcs)
 refine ⟨_, _, mkXR O [(51, Zal.g)] [] [rowI A cA ab], d, 2, 900, St.of 8 135 [(1, .v (.int pick)), (2, .ptr 0 0), (4, .ptr 1 0), (5, .v (.bl false)), (15, .v (.sl 0))] _, rfl, rfl, Zaw hO (all_cons Zal.fn ZW) Zap (Zbf hC ?_), fun a' h => h.carry rfl (by repeat (first | exact trivial | refine ⟨⟨rfl, rfl, trivial⟩, ?_⟩)) rfl, hr2, ?_⟩
 ·rintro a rfl ⟨i, hi, he⟩
  have := hA1 a.block rfl
  match i, hi, he with
  | 0, _, he => omega
  | 1, _, he => omega
 generalize hQ : Owes _ _ _ _ _ _ = Q
 have e6 : (rowI A cA ab) = { a := A, g := (A.getD ⟨0, 0, none⟩).block, p := (A.getD ⟨0, 0, none⟩).off, n := ab.length, c := cA, sz := 1, get := fun i => [.int (rd ab i)] } := rfl
 rw [e6]
 have hab' : O.eq (ab.length : Int) 0 = false := by
  subst hO
  show ((ab.length : Int) == 0) = false
  cases ab with
  | nil => exact absurd rfl hab
  | cons x l => simp; omega
 generalize hn : ab.length = nA at hab' ⊢
 generalize hrd : rd ab = rdA
 unfold Zal.g
 generalize hfM : Zal.F = fM
 cbv
 refine ⟨fun h => ?_, fun _ => ?_⟩
 ·rw [show O.eq (nA : Int) 0 = true from h] at hab'
  cases hab'
 cbv
 subst hQ hfM hrd hn
 refine ZaZ hm rfl rfl rfl ⟨_, Tryz.func34, rfl, rfl⟩ rfl fun dd w3 hr3 => ⟨_, HC w3 (Zar hb1 hr3.upd ?_ hb1.size), ?_⟩
 ·rintro q ⟨i, hi, rfl⟩
  match i, hi with
  | 0, _ => exact p0
  | 1, _ => exact p1
 rintro e3 w4 ⟨v2, v3, rfl, hm2, hs, hb4⟩
 have hs2 := Kd.S_mono (Kd.S_bound hs) (ok' := fun q => some q ≠ v2.ownBlock ∧ w3.heap.size ≤ q ∧ q < w4.heap.size) (fun q hq => ⟨hq.1, hq.2.1, hq.2.2.1⟩)
 clear hs
 obtain ⟨Am, cm, rfl, hcm, hCm⟩ := Kd.R_reads hm2
 obtain ⟨p, hL⟩ := lend hs2 hP.ht hP.hc hP.hb hP.he
 obtain rfl := hL.val
 have hb5 : Below w.heap.size w w4 := by
  refine below_step (Zar hb1 hr3.upd ?_ hb1.size) hb4
  rintro q ⟨i, hi, rfl⟩
  match i, hi with
  | 0, _ => exact p0
  | 1, _ => exact p1
 have hr4 := hr3.below hb4
 obtain ⟨t0, -, z0⟩ := hr4.box 0 _ rfl
 obtain ⟨t1, -, z1⟩ := hr4.box 1 _ rfl
 have u0 : dd 0 < w3.heap.size := hr3.lt (Nat.zero_lt_succ _)
 have u1 : dd 1 < w3.heap.size := hr3.lt (Nat.succ_lt_succ (Nat.zero_lt_succ _))
 have f0 : dd 0 = d 0 := hr3.old 0 (Nat.zero_lt_succ _)
 have f1 : dd 1 = d 1 := hr3.old 1 (Nat.succ_lt_succ (Nat.zero_lt_succ _))
 have hne : dd 0 ≠ dd 1 := fun h => by have := hr4.inj 0 1 (Nat.zero_lt_succ _) (Nat.succ_lt_succ (Nat.zero_lt_succ _)) h; omega
 have hv4 := Kd.R_below (Kd.R_step (Kd.R_bound hv) (fun q hq hlt => hr3.upd.block q hlt (by
  rintro ⟨i, hi, rfl⟩
  have := hq.2.1
  match i, hi, this with
  | 0, _, h => omega
  | 1, _, h => omega))) hb4
 have hsz : w2.heap.size ≤ w3.heap.size := hr3.upd.size
 have hfar : ∀ a, A = some a → ∀ i, i < 6 → Zb6 dd p i ≠ a.block := by
  rintro a rfl i hi
  have h1 := hA1 a.block rfl
  have h2 := hA2 a.block rfl
  obtain ⟨g1, g2, g3, g4⟩ := hL.ge
  match i, hi with
  | 0, _ => show dd 0 ≠ a.block; omega
  | 1, _ => show dd 1 ≠ a.block; omega
  | 2, _ => show p.g ≠ a.block; omega
  | 3, _ => show p.gC ≠ a.block; omega
  | 4, _ => show p.gB ≠ a.block; omega
  | 5, _ => show p.gE ≠ a.block; omega
 refine ⟨_, _, ZcE O [(51, Zal.g)] [(53, Zb.g)] (ZbH (rowI A cA ab) p t l3.length k j), Zb6 dd p, 6, 900, St.of 8 135 [(1, .v (.int pick)), (2, .ptr 0 0), (4, .ptr 1 0), (5, .v (.bl false)), (6, .v (.sl 0)), (21, .v (.agg [.int wh, .int sz, .slc Am l2.length cm, .sl 1, .int ck]))] _, rfl, rfl, Zcd hO (all_cons Zal.fn ZW) (ZaW Zb.me Zap) (Kd.R_reads' hv4).2.2 hfar hL (List.getElem?_eq_some_iff.1 hP.ht).1 (List.getElem?_eq_some_iff.1 hP.hc).1 (List.getElem?_eq_some_iff.1 hP.hb).1 (List.getElem?_eq_some_iff.1 hP.he).1, fun a' h => h.carry rfl (by repeat (first | exact trivial | refine ⟨⟨rfl, rfl, trivial⟩, ?_⟩)) rfl, ZcO hL (c0 := [.int wh, .int sz, .slc A2 n2 c2, .slc A3 n3 c3, .int ck]) (c1 := [.lit 0, .lit 0, .slc none 0 0, .slc none 0 0, .lit 0]) (t0 := t0) (t1 := t1) z0 z1 hne u0 u1, ?_⟩
 have hXc := Zcd (A := A) (cA := cA) (ab := ab) hO (all_cons Zal.fn ZW) (ZaW Zb.me Zap) (Kd.R_reads' hv4).2.2 hfar hL (List.getElem?_eq_some_iff.1 hP.ht).1 (List.getElem?_eq_some_iff.1 hP.hc).1 (List.getElem?_eq_some_iff.1 hP.hb).1 (List.getElem?_eq_some_iff.1 hP.he).1
 have i1 : O.eq (rd ab (Zal.F pick ab.length)) (k : Int) = true := by
  subst hO
  show (_ == _) = true
  rw [hkI]
  simp
 have i2 : O.eq t.f1 (j : Int) = true := by
  subst hO
  show (_ == _) = true
  rw [hP.hat]
  simp
 have i0 : O.inb (Zal.F pick ab.length) ab.length = true := by
  subst hO
  show (decide _ && decide _) = true
  simp only [Bool.and_eq_true, decide_eq_true_eq]
  exact hMod
 have belC : ∀ d' w', Upd (Bx d' 6) w4 w' → (∀ i, i < 6 → d' i = Zb6 dd p i) → Below w.heap.size w w' := fun d' w' hu hd => by
  obtain ⟨g1, g2, g3, g4⟩ := hL.ge
  refine Zar hb5 hu ?_ hb5.size
  rintro q ⟨i, hi, rfl⟩
  rw [hd i hi]
  have := hb1.size
  match i, hi with
  | 0, _ => show w.heap.size ≤ dd 0; rw [f0]; exact p0
  | 1, _ => show w.heap.size ≤ dd 1; rw [f1]; exact p1
  | 2, _ => show w.heap.size ≤ p.g; omega
  | 3, _ => show w.heap.size ≤ p.gC; omega
  | 4, _ => show w.heap.size ≤ p.gB; omega
  | 5, _ => show w.heap.size ≤ p.gE; omega
 generalize hQ : Owes _ _ _ _ _ _ = Q
 rw [e6]
 obtain ⟨x0, x1, x2, x3, x4, x5, x6, x7, x8, x9⟩ := c
 unfold Zal.g Zb.g
 generalize hn : ab.length = nA at i1 ⊢
 generalize hrd : rd ab = rdA at i1 ⊢
 generalize hfM : Zal.F = fM at i1 ⊢
 generalize hfE : Zb.F = fE
 generalize hn0 : t.f0.length = n0
 generalize hn2 : t.f2.length = n2'
 generalize hn3 : t.f3.length = n3'
 generalize hnl : l2.length = nl
 generalize hna : t.f1 = a1 at i2 ⊢
 generalize hnt : l3.length = nt
 cbv
 repeat' (apply And.intro <;> (try intro) <;> (try cbv))
 all_goals subst hQ hfE hfM hrd hn hn0 hn2 hn3 hna hnt hnl
 all_goals (try first | exact i0 | exact i1 | exact i2)
 all_goals first
  | (
     refine Zaf hm hXc rfl rfl rfl ⟨_, Tryz.func54, rfl, rfl⟩ rfl fun d5 w5 hq5 => ?_
     have hr5 := hq5
     refine ⟨_, HS _ _ _ _ _ _ _ _ _ _ w5 (belC _ _ hr5.upd fun _ _ => rfl), ?_⟩
     rintro e6 w6 ⟨v6, rfl, hv6, hb6⟩
     have hb6' := Kd.R_base hv6
     obtain ⟨A6, n6, c6, rfl⟩ := R_slice hv6
     have hX6 := hXc.reroot (hq5.below hb6)
     have hCr : CrS Zb.F st l2 wh ⟨x0, x1, x2, x3, x4, x5, x6, x7, x8, x9⟩ PP = st x0 x1 x2 x3 x4 x5 x6 x7 x8 x9 := by
      unfold CrS
      rw [if_neg]
      rintro ⟨q1, q2, q3⟩
      first
       | exact fls (teq wh 1 q1) (by assumption)
       | exact fls (teq x0 1 q2) (by assumption)
       | exact fls (teq x1 (-1) q3) (by assumption)
     rw [hCr]
     first
      | have hbb : (if b = -1 then ck else b) = ck := if_pos (eqt b (-1) (by assumption))
      | have hbb : (if b = -1 then ck else b) = b := if_neg (eqf b (-1) (by assumption))
     generalize st _ _ _ _ _ _ _ _ _ _ = r at *
     obtain ⟨rm, ⟨z0, z1, z2, z3, z4, z5, z6, z7, z8, z9⟩, rok⟩ := r
     have hr6 := hr5.below hb6
     have hs5 : w4.heap.size ≤ w5.heap.size := hr5.upd.size
     have hlt5 : ∀ q, Bx d5 8 q → q < w5.heap.size := by
      rintro q ⟨i, hi, rfl⟩
      exact hr5.lt hi
     refine ⟨.tup [.agg [.slc A6 n6 c6], .agg [.int z0, .int z1, .int z2, .int z3, .int z4, .int z5, .int z6, .int z7, .int z8, .bool z9], .bool rok], 900, _, rfl, hb6, rfl, ?_⟩
     generalize hQ : Owes _ _ _ _ _ _ = Q
     rw [e6]
     generalize hn : ab.length = nA
     generalize hrd : rd ab = rdA
     unfold Zal.g Zb.g
     generalize hfM : Zal.F = fM
     generalize hfE : Zb.F = fE
     generalize hna : t.f1 = a1 at i2 ⊢
     generalize hnt : l3.length = nt
     generalize hn0 : t.f0.length = n0
     generalize hn2 : t.f2.length = n2'
     generalize hn3 : t.f3.length = n3'
     generalize hnl : l2.length = nl
     cbv
     repeat' (apply And.intro <;> (try intro) <;> (try cbv))
     all_goals subst hQ hn0 hn2 hn3 hna hnt hnl hfE hfM hrd hn
     all_goals (try exact i2)
     all_goals refine Zav hX6 rfl fun d7 w7 hr7 => ?_
     all_goals have hr8 := hr6.comp hr7
     ·refine ⟨belC _ _ hr8.upd fun _ _ => rfl, ?_⟩
      ·rw [if_neg (by simp [nott rok (by assumption)])]
       rfl
     all_goals
      refine ⟨belC _ _ hr8.upd fun _ _ => rfl, ?_⟩
      rw [if_pos (notf rok (by assumption))]
      refine ⟨.slice A6 n6 c6, .slice (some ⟨p.g, 0, none⟩) l3.length p.cap, ?_, Zcw hv6 ?_ hr7.upd hlt5, Kd.S_lower (Kd.S_mono (ZbU hL (fun q hq => hq.2.1) u0 u1 hr8 (if z9 then wrap64 (t.f1 + 1) else t.f1) ⟨z0, z1, z2, z3, z4, z5, z6, z7, z8, z9⟩ (if b = -1 then ck else b) (if z9 then ck else e) ?_ rfl (by rw [hbb]; rfl) ?_) ?_) ?_⟩
     all_goals first
      | exact congrArg (fun x => Ending.returned (.tuple #[.agg #[.int .i64 wh, .int .i64 sz, .slice A6 n6 c6, .slice (some ⟨p.g, 0, none⟩) l3.length p.cap, .int .i64 x], .bool true])) (hadd ck 1)
      | exact congrArg (p.th t) ((hadd t.f1 1).trans (if_pos (show z9 = true by assumption)).symm)
      | exact congrArg (p.th t) (if_neg (show ¬ z9 = true by rw [show z9 = false by assumption]; simp)).symm
      | exact congrArg (fun x => [Value.int .i64 x]) (if_pos (show z9 = true by assumption)).symm
      | exact congrArg (fun x => [Value.int .i64 x]) (if_neg (show ¬ z9 = true by rw [show z9 = false by assumption]; simp)).symm
      | exact (belC _ _ hr5.upd fun _ _ => rfl).size
      | exact Nat.le_trans hb1.size hsz
      | (intro q hq he
         have := hb6' q (Eq.symm he)
         have := hq.2.2
         omega))
  | (
     refine Zaf hm hXc rfl rfl rfl ⟨_, Tryz.func52, rfl, rfl⟩ rfl fun d9 w9 hr9 => ?_
     obtain ⟨y3, q3, z3⟩ := hr9.box 3 _ rfl
     rw [hr9.old 3 (by decide), q3 rfl] at z3
     have hC9 := (Kd.R_reads' (hL.rC w9 (z3.trans hL.held.C.symm))).2.2
     refine ⟨_, ZdQ.walk (some ⟨p.gC, 0, none⟩) p.cC t.f0 t.f1 (some ⟨p.gB, 0, none⟩) t.f2.length p.cB (some ⟨p.gE, 0, none⟩) t.f3.length p.cE w9 hC9, ?_⟩
     rintro e10 w10 ⟨rfl, hb10⟩
     rw [hPP]
     clear hC9 z3 q3 y3
     have hX10 := hXc.reroot (hr9.below hb10)
     have hr10 := hr9.below hb10
     refine ⟨.int PP, 900, _, rfl, hb10, rfl, ?_⟩
     generalize hQ : Owes _ _ _ _ _ _ = Q
     rw [e6]
     generalize hn : ab.length = nA
     generalize hrd : rd ab = rdA
     unfold Zal.g Zb.g
     generalize hfM : Zal.F = fM
     generalize hfE : Zb.F = fE
     generalize hna : t.f1 = a1 at i2 ⊢
     generalize hnt : l3.length = nt
     generalize hn0 : t.f0.length = n0
     generalize hn2 : t.f2.length = n2'
     generalize hn3 : t.f3.length = n3'
     generalize hnl : l2.length = nl
     cbv
     repeat' (apply And.intro <;> (try intro) <;> (try cbv))
     all_goals subst hQ hn0 hn2 hn3 hna hnt hnl hfE hfM hrd hn
     all_goals (try exact i2)
     all_goals first
      | (refine Zav hX10 rfl fun d7 w7 hr7 => ?_
         have hr8 := hr10.comp hr7
         have hCr : CrS Zb.F st l2 wh ⟨x0, x1, x2, x3, x4, x5, x6, x7, x8, x9⟩ PP = ⟨l2, endC Zb.F ⟨x0, x1, x2, x3, x4, x5, x6, x7, x8, x9⟩ PP, true⟩ := by
          unfold CrS
          rw [if_pos ⟨eqt wh 1 (by assumption), eqt x0 1 (by assumption), eqt x1 (-1) (by assumption)⟩, if_pos (eqt PP (-1) (by assumption))]
         rw [hCr]
         first
          | have hbb : (if b = -1 then ck else b) = ck := if_pos (eqt b (-1) (by assumption))
          | have hbb : (if b = -1 then ck else b) = b := if_neg (eqf b (-1) (by assumption))
         have hm7 := Kd.R_step (Kd.R_tight rfl hm2) (fun q hq hlt => hr8.upd.block q hlt (by
          obtain ⟨o1, o2, o3, o4⟩ := hL.oks
          have := Kd.R_base hm2 q hq.symm
          rintro ⟨i, hi, he⟩
          match i, hi, he with
          | 0, _, he => exact absurd (show q = dd 0 from he) (by omega)
          | 1, _, he => exact absurd (show q = dd 1 from he) (by omega)
          | 2, _, he => exact o1.1 ((show q = p.g from he) ▸ hq)
          | 3, _, he => exact o2.1 ((show q = p.gC from he) ▸ hq)
          | 4, _, he => exact o3.1 ((show q = p.gB from he) ▸ hq)
          | 5, _, he => exact o4.1 ((show q = p.gE from he) ▸ hq)))
         first
          | have hd9 : (endC Zb.F ⟨x0, x1, x2, x3, x4, x5, x6, x7, x8, x9⟩ PP).f9 = true := by assumption
          | have hd9 : (endC Zb.F ⟨x0, x1, x2, x3, x4, x5, x6, x7, x8, x9⟩ PP).f9 = false := by assumption
         generalize hec : endC Zb.F ⟨x0, x1, x2, x3, x4, x5, x6, x7, x8, x9⟩ PP = ec at hd9 ⊢
         refine ⟨belC _ _ hr8.upd fun _ _ => rfl, ?_⟩
         rw [if_pos rfl]
         refine ⟨.slice Am l2.length cm, .slice (some ⟨p.g, 0, none⟩) l3.length p.cap, ?_, Kd.R_mono (Kd.R_lower hm7 (Nat.le_trans hb1.size hsz)) (fun _ _ => trivial), Kd.S_lower (Kd.S_mono (ZbU hL (fun q hq => hq.2.1) u0 u1 hr8 (if ec.f9 then wrap64 (t.f1 + 1) else t.f1) ec (if b = -1 then ck else b) (if ec.f9 then ck else e) ?_ (by subst hec; rfl) (by rw [hbb]; rfl) ?_) (fun q hq => hq.1)) (Nat.le_trans hb1.size hsz)⟩
         all_goals first
          | exact congrArg (fun x => Ending.returned (.tuple #[.agg #[.int .i64 wh, .int .i64 sz, .slice Am l2.length cm, .slice (some ⟨p.g, 0, none⟩) l3.length p.cap, .int .i64 x], .bool true])) (hadd ck 1)
          | exact congrArg (p.th t) ((hadd t.f1 1).trans (if_pos hd9).symm)
          | exact congrArg (p.th t) (if_neg (Bool.eq_false_iff.1 hd9)).symm
          | exact congrArg (fun x => [Value.int .i64 x]) (if_pos hd9).symm
          | exact congrArg (fun x => [Value.int .i64 x]) (if_neg (Bool.eq_false_iff.1 hd9)).symm)
      | (
         refine Zaf hm hX10 rfl rfl rfl ⟨_, Tryz.func54, rfl, rfl⟩ rfl fun d5 w5 hq5 => ?_
         have hr5 := hr10.comp hq5
         refine ⟨_, HS _ _ _ _ _ _ _ _ _ _ w5 (belC _ _ hr5.upd fun _ _ => rfl), ?_⟩
         rintro e6 w6 ⟨v6, rfl, hv6, hb6⟩
         have hb6' := Kd.R_base hv6
         obtain ⟨A6, n6, c6, rfl⟩ := R_slice hv6
         have hX6 := hX10.reroot (hq5.below hb6)
         have hCr : CrS Zb.F st l2 wh ⟨x0, x1, x2, x3, x4, x5, x6, x7, x8, x9⟩ PP = st x0 PP x2 x3 x4 x5 x6 x7 x8 x9 := by
          unfold CrS
          rw [if_pos ⟨eqt wh 1 (by assumption), eqt x0 1 (by assumption), eqt x1 (-1) (by assumption)⟩, if_neg (eqf PP (-1) (by assumption))]
         rw [hCr]
         first
          | have hbb : (if b = -1 then ck else b) = ck := if_pos (eqt b (-1) (by assumption))
          | have hbb : (if b = -1 then ck else b) = b := if_neg (eqf b (-1) (by assumption))
         generalize st _ _ _ _ _ _ _ _ _ _ = r at *
         obtain ⟨rm, ⟨z0, z1, z2, z3, z4, z5, z6, z7, z8, z9⟩, rok⟩ := r
         have hr6 := hr5.below hb6
         have hs5 : w4.heap.size ≤ w5.heap.size := hr5.upd.size
         have hlt5 : ∀ q, Bx d5 8 q → q < w5.heap.size := by
          rintro q ⟨i, hi, rfl⟩
          exact hr5.lt hi
         refine ⟨.tup [.agg [.slc A6 n6 c6], .agg [.int z0, .int z1, .int z2, .int z3, .int z4, .int z5, .int z6, .int z7, .int z8, .bool z9], .bool rok], 900, _, rfl, hb6, rfl, ?_⟩
         generalize hQ : Owes _ _ _ _ _ _ = Q
         rw [e6]
         generalize hn : ab.length = nA
         generalize hrd : rd ab = rdA
         unfold Zal.g Zb.g
         generalize hfM : Zal.F = fM
         generalize hfE : Zb.F = fE
         generalize hna : t.f1 = a1 at i2 ⊢
         generalize hnt : l3.length = nt
         generalize hn0 : t.f0.length = n0
         generalize hn2 : t.f2.length = n2'
         generalize hn3 : t.f3.length = n3'
         generalize hnl : l2.length = nl
         cbv
         repeat' (apply And.intro <;> (try intro) <;> (try cbv))
         all_goals subst hQ hn0 hn2 hn3 hna hnt hnl hfE hfM hrd hn
         all_goals (try exact i2)
         all_goals refine Zav hX6 rfl fun d7 w7 hr7 => ?_
         all_goals have hr8 := hr6.comp hr7
         ·refine ⟨belC _ _ hr8.upd fun _ _ => rfl, ?_⟩
          ·rw [if_neg (by simp [nott rok (by assumption)])]
           rfl
         all_goals
          refine ⟨belC _ _ hr8.upd fun _ _ => rfl, ?_⟩
          rw [if_pos (notf rok (by assumption))]
          refine ⟨.slice A6 n6 c6, .slice (some ⟨p.g, 0, none⟩) l3.length p.cap, ?_, Zcw hv6 ?_ hr7.upd hlt5, Kd.S_lower (Kd.S_mono (ZbU hL (fun q hq => hq.2.1) u0 u1 hr8 (if z9 then wrap64 (t.f1 + 1) else t.f1) ⟨z0, z1, z2, z3, z4, z5, z6, z7, z8, z9⟩ (if b = -1 then ck else b) (if z9 then ck else e) ?_ rfl (by rw [hbb]; rfl) ?_) ?_) ?_⟩
         all_goals first
          | exact congrArg (fun x => Ending.returned (.tuple #[.agg #[.int .i64 wh, .int .i64 sz, .slice A6 n6 c6, .slice (some ⟨p.g, 0, none⟩) l3.length p.cap, .int .i64 x], .bool true])) (hadd ck 1)
          | exact congrArg (p.th t) ((hadd t.f1 1).trans (if_pos (show z9 = true by assumption)).symm)
          | exact congrArg (p.th t) (if_neg (show ¬ z9 = true by rw [show z9 = false by assumption]; simp)).symm
          | exact congrArg (fun x => [Value.int .i64 x]) (if_pos (show z9 = true by assumption)).symm
          | exact congrArg (fun x => [Value.int .i64 x]) (if_neg (show ¬ z9 = true by rw [show z9 = false by assumption]; simp)).symm
          | exact (belC _ _ hr5.upd fun _ _ => rfl).size
          | exact Nat.le_trans hb1.size hsz
          | (intro q hq he
             have := hb6' q (Eq.symm he)
             have := hq.2.2
             omega)))
theorem Zbn.go (wh sz ck pick : Int) (A2 : Option Addr) (n2 c2 : Nat) (A3 : Option Addr) (n3 c3 : Nat) (w : World) (ab : List Int) (l2 : List Int) (l3 : List S52) (k j : Nat) (t : S52) (c : S54) (b e : Int) (r : Rs)
 (HA : ∀ w', Below w.heap.size w w' → Calls Tryz.prog 19 #[crV wh sz A2 n2 c2 A3 n3 c3 ck] w' fun e w2 => ∃ v, e = .returned v ∧ (Kd.int .i64).R 3 w2 w'.heap.size (fun _ => True) v ab ∧ Below w'.heap.size w' w2)
 (HC : ∀ w', Below w.heap.size w w' → Calls Tryz.prog 22 #[crV wh sz A2 n2 c2 A3 n3 c3 ck] w' fun e w2 => ∃ v2 v3, e = .returned (.agg #[.int .i64 wh, .int .i64 sz, v2, v3, .int .i64 ck]) ∧ (Kd.int .i64).R 3 w2 w'.heap.size (fun _ => True) v2 l2 ∧ Kd.S k52 52 w2 w'.heap.size (fun k_ => some k_ ≠ v2.ownBlock) v3 l3 ∧ Below w'.heap.size w' w2)
 (HK : ∀ w', Below w.heap.size w w' → Calls Tryz.prog 20 #[crV wh sz A2 n2 c2 A3 n3 c3 ck] w' fun e w2 => e = .returned (.bool true) ∧ Below w'.heap.size w' w2)
 (HT : ∀ (p : Pl) w', Below w.heap.size w w' → k54.C w' (some ⟨p.gC, 0, none⟩) t.f0.length t.f0 → Calls Tryz.prog 23 #[crV wh sz A2 n2 c2 A3 n3 c3 ck, .agg (p.th t t.f1).toArray] w' fun e w2 => ∃ v, e = .returned (Tv r v) ∧ (Kd.int .i64).R 3 w2 w'.heap.size (fun _ => True) v r.m ∧ Below w'.heap.size w' w2)
 (hMod : 0 ≤ Zaj.F pick ab.length ∧ Zaj.F pick ab.length < ab.length)
 (hab : ab ≠ []) (hkI : rd ab (Zaj.F pick ab.length) = (k : Int)) (hP : Pick l3 k j t c b e) :
 Calls Tryz.prog 6 #[crV wh sz A2 n2 c2 A3 n3 c3 ck, .int .i64 pick] w (Zer w wh sz ck r (crL l3 k j t (if b < 0 then ck else b) e ck r)) := by
 obtain ⟨O, hO⟩ : ∃ O, O = std := ⟨_, rfl⟩
 have eqt : ∀ x y : Int, O.eq x y = true → x = y := fun x y h => by
  rw [hO] at h
  exact beq_iff_eq.1 h
 have teq : ∀ x y : Int, x = y → O.eq x y = true := fun x y h => by
  rw [hO]
  exact beq_iff_eq.2 h
 have eqf : ∀ x y : Int, O.eq x y = false → x ≠ y := fun x y h he => fls (teq x y he) h
 have hadd : ∀ x y : Int, O.add x y = wrap64 (x + y) := fun x y => by
  rw [hO]
  rfl
 have ltt : ∀ x y : Int, O.lt x y = true → x < y := fun x y h => by
  rw [hO] at h
  exact of_decide_eq_true h
 have ltf : ∀ x y : Int, O.lt x y = false → ¬ x < y := fun x y h => by
  rw [hO] at h
  exact of_decide_eq_false h
 have nott : ∀ x : Bool, O.not x = true → x = false := fun x h => by
  rw [hO] at h
  cases x
  ·rfl
  ·cases h
 have notf : ∀ x : Bool, O.not x = false → x = true := fun x h => by
  rw [hO] at h
  cases x
  ·cases h
  ·rfl
 refine ZaD (X := mkXR O [(21, Zaj.g)] [] []) (d1 := fun _ => 0) Tryz.func6 rfl (by kernel_rfl) hm (Zaw hO (all_cons Zaj.fn ZW) Zap fun r => Zax rfl) [.agg [.int wh, .int sz, .slc A2 n2 c2, .slc A3 n3 c3, .int ck], .int pick] 7 900 (Nat.le_of_ble_eq_true rfl) ?_
 generalize hQ : Owes _ _ _ _ _ _ = Q
 cbv
 subst hQ
 refine ZaZ hm rfl rfl rfl ⟨_, Tryz.func19, rfl, rfl⟩ rfl fun d w1 hr => ⟨_, HA w1 (hr.upd.below fun k ⟨i, hi, _⟩ => by omega), ?_⟩
 rintro e1 w2 ⟨v, rfl, hv, hb⟩
 have hA1 := Kd.R_base hv
 have hA2 := Kd.R_lt hv
 obtain ⟨A, cA, rfl, hcA, hC⟩ := Kd.R_reads hv
 have hb1 : Below w.heap.size w w2 := below_step (hr.upd.below fun k ⟨i, hi, _⟩ => by omega) hb
 have q0 := hr.lt (i := 0) (Nat.zero_lt_succ _)
 have q1 := hr.lt (i := 1) (Nat.succ_lt_succ (Nat.zero_lt_succ _))
 have p0 := hr.new 0 (Nat.le_refl _) (Nat.zero_lt_succ _)
 have p1 := hr.new 1 (Nat.zero_le _) (Nat.succ_lt_succ (Nat.zero_lt_succ _))
 have hr2 := (hr.below hb).reroot.rows (rs' := [rowI A cA ab]) (by intro cs hcs; rcases List.mem_cons.1 hcs with rfl | hcs; · rfl
                                                                   rcases List.mem_cons.1 hcs with rfl | hcs; · rfl
                                                                   cases hcs)
 have hX1 : CxOk Tryz.prog (mkXR O [(21, Zaj.g)] [] [rowI A cA ab]) d 2 w2 := Zaw hO (all_cons Zaj.fn ZW) Zap (Zbf hC (by
  rintro a rfl ⟨i, hi, he⟩
  have := hA1 a.block rfl
  match i, hi, he with
  | 0, _, he => omega
  | 1, _, he => omega))
 refine ⟨_, _, mkXR O [(21, Zaj.g)] [] [rowI A cA ab], d, 2, 900, St.of 7 93 [(1, .v (.int pick)), (2, .ptr 0 0), (4, .ptr 1 0), (5, .v (.bl false)), (14, .v (.sl 0))] _, rfl, rfl, hX1, fun a' h => h.carry rfl (by repeat (first | exact trivial | refine ⟨⟨rfl, rfl, trivial⟩, ?_⟩)) rfl, hr2, ?_⟩
 generalize hQ : Owes _ _ _ _ _ _ = Q
 have e6 : (rowI A cA ab) = { a := A, g := (A.getD ⟨0, 0, none⟩).block, p := (A.getD ⟨0, 0, none⟩).off, n := ab.length, c := cA, sz := 1, get := fun i => [.int (rd ab i)] } := rfl
 rw [e6]
 have hab' : O.eq (ab.length : Int) 0 = false := by
  subst hO
  show ((ab.length : Int) == 0) = false
  cases ab with
  | nil => exact absurd rfl hab
  | cons x l => simp; omega
 generalize hn : ab.length = nA at hab' ⊢
 generalize hrd : rd ab = rdA
 unfold Zaj.g
 generalize hfM : Zaj.F = fM
 cbv
 subst hQ hfM hrd hn
 refine Zaf hm hX1 rfl rfl rfl ⟨_, Tryz.func20, rfl, rfl⟩ rfl fun dk wk hrk => ⟨_, HK wk (Zar hb1 hrk.upd ?_ hb1.size), ?_⟩
 ·rintro q ⟨i, hi, rfl⟩
  match i, hi with
  | 0, _ => exact p0
  | 1, _ => exact p1
 rintro ek wk2 ⟨rfl, hbk⟩
 have hXk := hX1.reroot (hrk.below hbk)
 have hrk2 := hrk.below hbk
 refine ⟨.bl true, 900, _, rfl, hbk, rfl, ?_⟩
 generalize hQ : Owes _ _ _ _ _ _ = Q
 rw [e6]
 generalize hn : ab.length = nA at hab' ⊢
 generalize hrd : rd ab = rdA
 unfold Zaj.g
 generalize hfM : Zaj.F = fM
 cbv
 refine ⟨fun h => ?_, fun _ => ?_⟩
 ·rw [show O.eq (nA : Int) 0 = true from h] at hab'
  cases hab'
 cbv
 refine ⟨?_, ?_⟩
 ·subst hO hn hrd hfM
  show (decide _ && decide _) = true
  simp only [Bool.and_eq_true, decide_eq_true_eq]
  exact hMod
 cbv
 subst hQ hfM hrd hn
 refine ZaZ hm rfl rfl rfl ⟨_, Tryz.func22, rfl, rfl⟩ rfl fun dd w3 hr3' => ?_
 have hr3 := hrk2.comp hr3'
 refine ⟨_, HC w3 (Zar hb1 hr3.upd ?_ hb1.size), ?_⟩
 ·rintro q ⟨i, hi, rfl⟩
  match i, hi with
  | 0, _ => exact p0
  | 1, _ => exact p1
 rintro e3 w4 ⟨v2, v3, rfl, hm2, hs, hb4⟩
 have hs2 := Kd.S_mono (Kd.S_bound hs) (ok' := fun q => some q ≠ v2.ownBlock ∧ w3.heap.size ≤ q ∧ q < w4.heap.size) (fun q hq => ⟨hq.1, hq.2.1, hq.2.2.1⟩)
 clear hs
 obtain ⟨Am, cm, rfl, hcm, hCm⟩ := Kd.R_reads hm2
 obtain ⟨p, hL⟩ := lend hs2 hP.ht hP.hc hP.hb hP.he
 obtain rfl := hL.val
 have hb5 : Below w.heap.size w w4 := by
  refine below_step (Zar hb1 hr3.upd ?_ hb1.size) hb4
  rintro q ⟨i, hi, rfl⟩
  match i, hi with
  | 0, _ => exact p0
  | 1, _ => exact p1
 have hr4 := hr3.below hb4
 obtain ⟨t0, -, z0⟩ := hr4.box 0 _ rfl
 obtain ⟨t1, -, z1⟩ := hr4.box 1 _ rfl
 have u0 : dd 0 < w3.heap.size := hr3.lt (Nat.zero_lt_succ _)
 have u1 : dd 1 < w3.heap.size := hr3.lt (Nat.succ_lt_succ (Nat.zero_lt_succ _))
 have f0 : dd 0 = d 0 := hr3.old 0 (Nat.zero_lt_succ _)
 have f1 : dd 1 = d 1 := hr3.old 1 (Nat.succ_lt_succ (Nat.zero_lt_succ _))
 have hne : dd 0 ≠ dd 1 := fun h => by have := hr4.inj 0 1 (Nat.zero_lt_succ _) (Nat.succ_lt_succ (Nat.zero_lt_succ _)) h; omega
 have hv4 := Kd.R_below (Kd.R_step (Kd.R_bound hv) (fun q hq hlt => hr3.upd.block q hlt (by
  rintro ⟨i, hi, rfl⟩
  have := hq.2.1
  match i, hi, this with
  | 0, _, h => omega
  | 1, _, h => omega))) hb4
 have hsz : w2.heap.size ≤ w3.heap.size := hr3.upd.size
 have hfar : ∀ a, A = some a → ∀ i, i < 6 → Zb6 dd p i ≠ a.block := by
  rintro a rfl i hi
  have h1 := hA1 a.block rfl
  have h2 := hA2 a.block rfl
  obtain ⟨g1, g2, g3, g4⟩ := hL.ge
  match i, hi with
  | 0, _ => show dd 0 ≠ a.block; omega
  | 1, _ => show dd 1 ≠ a.block; omega
  | 2, _ => show p.g ≠ a.block; omega
  | 3, _ => show p.gC ≠ a.block; omega
  | 4, _ => show p.gB ≠ a.block; omega
  | 5, _ => show p.gE ≠ a.block; omega
 refine ⟨_, _, ZcE O [] [] (ZbH (rowI A cA ab) p t l3.length k j), Zb6 dd p, 6, 900, St.of 7 93 [(2, .ptr 0 0), (4, .ptr 1 0), (5, .v (.bl false)), (6, .v (.sl 0)), (7, .v (.int (rd ab (Zaj.F pick ab.length)))), (32, .v (.agg [.int wh, .int sz, .slc Am l2.length cm, .sl 1, .int ck]))] _, rfl, rfl, Zcd hO ZW Zap (Kd.R_reads' hv4).2.2 hfar hL (List.getElem?_eq_some_iff.1 hP.ht).1 (List.getElem?_eq_some_iff.1 hP.hc).1 (List.getElem?_eq_some_iff.1 hP.hb).1 (List.getElem?_eq_some_iff.1 hP.he).1, fun a' h => h.carry rfl (by repeat (first | exact trivial | refine ⟨⟨rfl, rfl, trivial⟩, ?_⟩)) rfl, ZcO hL (c0 := [.int wh, .int sz, .slc A2 n2 c2, .slc A3 n3 c3, .int ck]) (c1 := [.lit 0, .lit 0, .slc none 0 0, .slc none 0 0, .lit 0]) (t0 := t0) (t1 := t1) z0 z1 hne u0 u1, ?_⟩
 have hXc := Zcd (A := A) (cA := cA) (ab := ab) hO ZW Zap (Kd.R_reads' hv4).2.2 hfar hL (List.getElem?_eq_some_iff.1 hP.ht).1 (List.getElem?_eq_some_iff.1 hP.hc).1 (List.getElem?_eq_some_iff.1 hP.hb).1 (List.getElem?_eq_some_iff.1 hP.he).1
 have i1 : O.eq (rd ab (Zaj.F pick ab.length)) (k : Int) = true := by
  subst hO
  show (_ == _) = true
  rw [hkI]
  simp
 have i2 : O.eq t.f1 (j : Int) = true := by
  subst hO
  show (_ == _) = true
  rw [hP.hat]
  simp
 have belC : ∀ d' w', Upd (Bx d' 6) w4 w' → (∀ i, i < 6 → d' i = Zb6 dd p i) → Below w.heap.size w w' := fun d' w' hu hd => by
  obtain ⟨g1, g2, g3, g4⟩ := hL.ge
  refine Zar hb5 hu ?_ hb5.size
  rintro q ⟨i, hi, rfl⟩
  rw [hd i hi]
  have := hb1.size
  match i, hi with
  | 0, _ => show w.heap.size ≤ dd 0; rw [f0]; exact p0
  | 1, _ => show w.heap.size ≤ dd 1; rw [f1]; exact p1
  | 2, _ => show w.heap.size ≤ p.g; omega
  | 3, _ => show w.heap.size ≤ p.gC; omega
  | 4, _ => show w.heap.size ≤ p.gB; omega
  | 5, _ => show w.heap.size ≤ p.gE; omega
 generalize hQ : Owes _ _ _ _ _ _ = Q
 rw [e6]
 obtain ⟨x0, x1, x2, x3, x4, x5, x6, x7, x8, x9⟩ := c
 generalize hn : ab.length = nA at i1 ⊢
 generalize hrd : rd ab = rdA at i1 ⊢
 generalize hfM : Zaj.F = fM at i1 ⊢
 generalize hn0 : t.f0.length = n0
 generalize hn2 : t.f2.length = n2'
 generalize hn3 : t.f3.length = n3'
 generalize hnl : l2.length = nl
 generalize hna : t.f1 = a1 at i2 ⊢
 generalize hnt : l3.length = nt
 cbv
 repeat' (apply And.intro <;> (try intro) <;> (try cbv))
 all_goals subst hQ hfM hrd hn hn0 hn2 hn3 hna hnt hnl
 all_goals (try first | exact i1 | exact i2)
 refine Zaf hm hXc rfl rfl rfl ⟨_, Tryz.func23, rfl, rfl⟩ rfl fun d5 w5 hr5 => ?_
 obtain ⟨y3, q3, z3⟩ := hr5.box 3 _ rfl
 rw [hr5.old 3 (by decide), q3 rfl] at z3
 have hC9 := (Kd.R_reads' (hL.rC w5 (z3.trans hL.held.C.symm))).2.2
 refine ⟨_, HT p w5 (belC _ _ hr5.upd fun _ _ => rfl) hC9, ?_⟩
 clear hC9 z3 q3 y3
 rintro e6' w6 ⟨v6, rfl, hv6, hb6⟩
 have hb6' := Kd.R_base hv6
 obtain ⟨A6, n6, c6, rfl⟩ := R_slice hv6
 have hX6 := hXc.reroot (hr5.below hb6)
 obtain ⟨rm, ⟨z0, z1, z2, z3, z4, z5, z6, z7, z8, z9⟩, rok⟩ := r
 have hr6 := hr5.below hb6
 have hs5 : w4.heap.size ≤ w5.heap.size := hr5.upd.size
 have hlt5 : ∀ q, Bx d5 8 q → q < w5.heap.size := by
  rintro q ⟨i, hi, rfl⟩
  exact hr5.lt hi
 refine ⟨.tup [.agg [.slc A6 n6 c6], .agg [.int z0, .int z1, .int z2, .int z3, .int z4, .int z5, .int z6, .int z7, .int z8, .bool z9], .bool rok], 900, _, rfl, hb6, rfl, ?_⟩
 generalize hQ : Owes _ _ _ _ _ _ = Q
 rw [e6]
 generalize hn : ab.length = nA
 generalize hrd : rd ab = rdA
 generalize hfM : Zaj.F = fM
 generalize hna : t.f1 = a1 at i2 ⊢
 generalize hnt : l3.length = nt
 generalize hn0 : t.f0.length = n0
 generalize hn2 : t.f2.length = n2'
 generalize hn3 : t.f3.length = n3'
 generalize hnl : l2.length = nl
 cbv
 repeat' (apply And.intro <;> (try intro) <;> (try cbv))
 all_goals subst hQ hn0 hn2 hn3 hna hnt hnl hfM hrd hn
 all_goals (try exact i2)
 all_goals (try exact i1)
 all_goals refine Zav hX6 rfl fun d7 w7 hr7 => ?_
 all_goals have hr8 := hr6.comp hr7
 ·refine ⟨belC _ _ hr8.upd fun _ _ => rfl, ?_⟩
  ·rw [if_neg (by simp [nott rok (by assumption)])]
   rfl
 all_goals
  refine ⟨belC _ _ hr8.upd fun _ _ => rfl, ?_⟩
  rw [if_pos (notf rok (by assumption))]
  first
   | have hbb : (if b < 0 then ck else b) = ck := if_pos (ltt b 0 (by assumption))
   | have hbb : (if b < 0 then ck else b) = b := if_neg (ltf b 0 (by assumption))
  refine ⟨.slice A6 n6 c6, .slice (some ⟨p.g, 0, none⟩) l3.length p.cap, ?_, Zcw hv6 ?_ hr7.upd hlt5, Kd.S_lower (Kd.S_mono (ZbU hL (fun q hq => hq.2.1) u0 u1 hr8 (if z9 then wrap64 (t.f1 + 1) else t.f1) ⟨z0, z1, z2, z3, z4, z5, z6, z7, z8, z9⟩ (if b < 0 then ck else b) (if z9 then ck else e) ?_ rfl (by rw [hbb]; rfl) ?_) ?_) ?_⟩
 all_goals first
  | exact congrArg (fun x => Ending.returned (.tuple #[.agg #[.int .i64 wh, .int .i64 sz, .slice A6 n6 c6, .slice (some ⟨p.g, 0, none⟩) l3.length p.cap, .int .i64 x], .bool true])) (hadd ck 1)
  | exact congrArg (p.th t) ((hadd t.f1 1).trans (if_pos (show z9 = true by assumption)).symm)
  | exact congrArg (p.th t) (if_neg (show ¬ z9 = true by rw [show z9 = false by assumption]; simp)).symm
  | exact congrArg (fun x => [Value.int .i64 x]) (if_pos (show z9 = true by assumption)).symm
  | exact congrArg (fun x => [Value.int .i64 x]) (if_neg (show ¬ z9 = true by rw [show z9 = false by assumption]; simp)).symm
  | exact (belC _ _ hr5.upd fun _ _ => rfl).size
  | exact Nat.le_trans hb1.size hsz
  | (intro q hq he
     have := hb6' q (Eq.symm he)
     have := hq.2.2
     omega)
end Go.Proofs.YtgghglocfdcegaaGreat.Xec
