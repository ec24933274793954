/- Part L of the proof of FnExactCrewStep and FnExactCrewRun (wip/xec, pack.py). No condition. -/
import Derived.Test.YtgghglocfdcegaaGreatKG
import Derived.Test.YtgghglocfdcegaaGreatKT1
import Derived.Test.YtgghglocfdcegaaGreatKT2
import Derived.Test.YtgghglocfdcegaaGreatKT3
import Derived.Test.YtgghglocfdcegaaGreatKT4
import Derived.Test.YtgghglocfdcegaaGreatKT5
import Derived.Test.YtgghglocfdcegaaGreatKT6
namespace Go.Proofs.YtgghglocfdcegaaGreat.Xec.Plain
open Go Go.RowKit Go.Proofs.YtgghglocfdcegaaGreatW.PrintWords
set_option linter.unusedVariables false
set_option linter.unusedSimpArgs false
set_option maxRecDepth 100000
set_option maxHeartbeats 16000000
theorem ZeF (k : Nat) (n kd a x pc p c w r v : Int) (done : Bool) (ha : I64 a) (hc : I64 c) (hw64 : I64 w) :
 ∃ q0 q1 q2 q3 q4, (I64 q2 ∧ I64 q3) ∧ Zn.f n kd a x pc p c w r v done = some (q0, q1, q2, q3, q4) ∧ Zi.f n kd a x pc p c w r v done = some (q0, q1, q2, q3, q4) := by
 have hw := hw64.hi
 obtain ⟨t, i, b, hu1, hu2, hi0, hi1, ht0, ht1, -, -⟩ := Zdf w hw
 obtain ⟨hn1, hn2⟩ := Ze3 t
 by_cases hd : done = true
 ·subst hd
  exact ⟨0, 0, 0, 0, false, Gd, by simp [Zn.f, Zn.j0], by simp [Zi.f, Zi.j0, Zab.f, hu2]⟩
 ·obtain rfl : done = false := by simpa using hd
  by_cases hn : 1 ≤ n ∧ n ≤ 16
  ·have hz : Zx.f n = some true := by unfold Zx.f; rw [if_pos (by omega), decide_eq_true hn.2]
   by_cases hk : kd = 1 ∨ kd = 2
   ·by_cases hp : pc = 0 ∨ pc = 1 ∨ pc = 2
    ·have pk : ∀ z, ∃ u b', I64 u ∧ Zat.f (if 0 ≤ t ∧ t ≤ 1073741822 then t + 1 else 0) z = some (u, b') ∧ Zas.f (if 0 ≤ t ∧ t ≤ 1073741822 then t + 1 else 0) z = some (u, b') := fun z => by
      obtain ⟨u, b', h1, h2, _, _, hu⟩ := Zgw (if 0 ≤ t ∧ t ≤ 1073741822 then t + 1 else 0) z
      exact ⟨u, b', hu, h1, h2⟩
     obtain ⟨u1, b1, hu1_, p1, p2⟩ := pk (a + 1)
     obtain ⟨u2, b2, hu2_, p3, p4⟩ := pk c
     have hwn : wrap64 (n - 1) = n - 1 := w64 (by omega) (by omega)
     have hwi : wrap64 (i - 1) = i - 1 := w64 (by omega) (by omega)
     have hwi2 : wrap64 i = i := w64 (by omega) (by omega)
     rcases hk with rfl | rfl
     ·by_cases ha : 0 ≤ a ∧ a ≤ n - 1
      ·have hwa : wrap64 (a + 1) = a + 1 := w64 (by omega) (by omega)
       have hq : ∃ q0 q1 q2 q3 q4, (I64 q2 ∧ I64 q3) ∧ (if b1 = true then some ((3 : Int), (0 : Int), w, u1, true) else some (0, 0, 0, 0, false)) = some (q0, q1, q2, q3, q4) := by
        split <;> exact ⟨_, _, _, _, _, Gd, rfl⟩
       obtain ⟨q0, q1, q2, q3, q4, hq2_, hq⟩ := hq
       rcases hp with rfl | rfl | rfl
       ·exact ⟨1, 0, 0, 0, true, Gd, by simp [Zn.f, Zn.j0, Zn.j1, ZQ.f, Zv.f, Zw.f, hz, hu1, ZbS, hwn, ha], by simp [Zi.f, Zi.j0, Zi.j1, Zi.j2, Zab.f, hu2, ZaC, hwn, ha, hn]⟩
       ·exact ⟨2, wrap64 (1 + a), i, 0, true, Gd, by simp [Zn.f, Zn.j0, Zn.j1, Zn.j2, ZQ.f, Zv.f, Zu.f, hz, hu1, ZbS, hwn, ha], by simp [Zi.f, Zi.j0, Zi.j1, Zi.j2, Zi.j3, Zab.f, hu2, ZaC, hwn, ha, hn, hwi, hwi2]⟩
       ·exact ⟨q0, q1, q2, q3, q4, hq2_, by rw [← hq]; simp [Zn.f, Zn.j0, Zn.j1, Zn.j2, Zn.j3, ZQ.f, Zv.f, ZT.f, hz, hu1, ZbS, hwn, ha, hn1, hwa, p1], by rw [← hq]; simp [Zi.f, Zi.j0, Zi.j1, Zi.j2, Zi.j3, Zab.f, hu2, ZaC, hwn, ha, hn, hn2, hwa, p2]⟩
      ·have ha' : ∀ h : 0 ≤ a, ¬ a ≤ n - 1 := fun h h2 => ha ⟨h, h2⟩
       refine ⟨0, 0, 0, 0, false, Gd, ?_, ?_⟩
       ·rcases hp with rfl | rfl | rfl <;> simp [Zn.f, Zn.j0, Zn.j1, ZQ.f, Zv.f, hz, hu1, ZbS, hwn] <;> omega
       ·rcases hp with rfl | rfl | rfl <;> simp [Zi.f, Zi.j0, Zi.j1, Zab.f, hu2, ZaC, hwn, hn] <;> omega
     ·have hq : ∃ q0 q1 q2 q3 q4, (I64 q2 ∧ I64 q3) ∧ (if b2 = true then some ((3 : Int), (0 : Int), w, u2, true) else some (0, 0, 0, 0, false)) = some (q0, q1, q2, q3, q4) := by
       split <;> exact ⟨_, _, _, _, _, Gd, rfl⟩
      obtain ⟨q0, q1, q2, q3, q4, hq2_, hq⟩ := hq
      by_cases ha : 0 ≤ i - 1 ∧ i - 1 ≤ n - 1
      ·have hb1 : 1 ≤ i := by omega
       have hb2 : i ≤ n := by omega
       have hb3 : ¬ n < i := by omega
       rcases hp with rfl | rfl | rfl
       ·exact ⟨1, 0, 0, 0, true, Gd, by simp [Zn.f, Zn.j0, Zn.j1, ZQ.f, Zv.f, Zw.f, hz, hu1], by simp [Zi.f, Zi.j0, Zi.j1, Zi.j2, Zab.f, hu2, ZaC, hn]⟩
       ·exact ⟨1, wrap64 (1 + (i - 1)), 0, 0, true, Gd, by simp [Zn.f, Zn.j0, Zn.j1, Zn.j2, ZQ.f, Zv.f, Zw.f, hz, hu1, ZbS, hwn, hwi, hb1, hb2], by simp [Zi.f, Zi.j0, Zi.j1, Zi.j2, Zi.j3, Zab.f, hu2, ZaC, hwn, hwi, hb1, hb2, hb3, hn]⟩
       ·exact ⟨q0, q1, q2, q3, q4, hq2_, by rw [← hq]; simp [Zn.f, Zn.j0, Zn.j1, Zn.j2, Zn.j3, ZQ.f, Zv.f, ZT.f, hz, hu1, ZbS, hwn, hwi, hb1, hb2, hb3, hn1, p3], by rw [← hq]; simp [Zi.f, Zi.j0, Zi.j1, Zi.j2, Zi.j3, Zab.f, hu2, ZaC, hwn, hwi, hb1, hb2, hb3, hn, hn2, p4]⟩
      ·rcases hp with rfl | rfl | rfl
       ·exact ⟨1, 0, 0, 0, true, Gd, by simp [Zn.f, Zn.j0, Zn.j1, ZQ.f, Zv.f, Zw.f, hz, hu1], by simp [Zi.f, Zi.j0, Zi.j1, Zi.j2, Zab.f, hu2, ZaC, hn]⟩
       ·refine ⟨0, 0, 0, 0, false, Gd, ?_, ?_⟩
        ·simp [Zn.f, Zn.j0, Zn.j1, ZQ.f, Zv.f, hz, hu1, ZbS, hwn, hwi]; omega
        ·simp [Zi.f, Zi.j0, Zi.j1, Zab.f, hu2, ZaC, hwn, hwi, hn]; omega
       ·refine ⟨0, 0, 0, 0, false, Gd, ?_, ?_⟩
        ·simp [Zn.f, Zn.j0, Zn.j1, ZQ.f, Zv.f, hz, hu1, ZbS, hwn, hwi]; omega
        ·simp [Zi.f, Zi.j0, Zi.j1, Zab.f, hu2, ZaC, hwn, hwi, hn]; omega
    ·refine ⟨0, 0, 0, 0, false, Gd, ?_, ?_⟩
     ·have : pc < 0 ∨ pc > 2 := by omega
      rcases hk with rfl | rfl <;> rcases this with h | h <;> simp [Zn.f, Zn.j0, hz, h] <;> omega
     ·have : ¬ (0 ≤ pc ∧ pc ≤ 2) := by omega
      rcases hk with rfl | rfl <;> simp [Zi.f, Zi.j0, Zab.f, hu2, ZaC, hn, this]
   ·refine ⟨0, 0, 0, 0, false, Gd, ?_, ?_⟩
    ·have : kd < 1 ∨ (¬ kd < 1 ∧ kd > 2) := by omega
     rcases this with h | h <;> simp [Zn.f, Zn.j0, hz, h]
    ·have : ¬ (1 ≤ kd ∧ kd ≤ 2) := by omega
     simp [Zi.f, Zi.j0, Zab.f, hu2, ZaC, hn, this]
  ·have hz : Zx.f n = some false := by
    unfold Zx.f
    split
    ·rw [decide_eq_false (by omega)]
    ·rfl
   exact ⟨0, 0, 0, 0, false, Gd, by simp [Zn.f, Zn.j0, hz], by simp [Zi.f, Zi.j0, Zab.f, hu2, ZaC, hn]⟩
theorem ZfC (k : Nat) (n kd a x pc p c w r v : Int) (done : Bool) (hw : w ≤ 9223372036854775807) (q0 q1 q2 q3 : Int) (h : Zi.f n kd a x pc p c w r v done = some (q0, q1, q2, q3, true)) :
 done = false ∧ (kd = 1 ∨ kd = 2) ∧ (pc = 0 ∨ pc = 1 ∨ (pc = 2 ∧ q0 = 3)) := by
 obtain ⟨t, i, b, hu1, hu2, -⟩ := Zdf w hw
 cases done with
 | true => simp [Zi.f, Zi.j0, Zab.f, hu2] at h
 | false =>
   by_cases hn : 1 ≤ n ∧ n ≤ 16
   ·by_cases hk : 1 ≤ kd ∧ kd ≤ 2
    ·by_cases hp : 0 ≤ pc ∧ pc ≤ 2
     ·refine ⟨rfl, by omega, ?_⟩
      by_cases p0 : pc = 0
      ·exact Or.inl p0
      ·by_cases p1 : pc = 1
       ·exact Or.inr (Or.inl p1)
       ·obtain rfl : pc = 2 := by omega
        refine Or.inr (Or.inr ⟨rfl, ?_⟩)
        obtain ⟨hn1, hn2⟩ := Ze3 t
        have pk : ∀ z, ∃ u b', Zas.f (if 0 ≤ t ∧ t ≤ 1073741822 then t + 1 else 0) z = some (u, b') := fun z => by
         obtain ⟨u, b', h1, h2, _⟩ := Zgw (if 0 ≤ t ∧ t ≤ 1073741822 then t + 1 else 0) z
         exact ⟨u, b', h2⟩
        obtain ⟨u1, b1, p1⟩ := pk (wrap64 (a + 1))
        obtain ⟨u2, b2, p2⟩ := pk c
        simp only [Zi.f, Zi.j0, Zi.j1, Zi.j2, Zi.j3, Zab.f, hu2, ZaC, Option.bind_some, hn2, p1, p2, decide_eq_true hn, decide_eq_true hk, decide_eq_true hp, Bool.not_true, Bool.false_eq_true, if_false, if_true, show ¬ ((2 : Int) = 0) by decide, show ¬ ((2 : Int) = 1) by decide, show ((2 : Int) > 0) by decide] at h
        revert h
        repeat' split
        all_goals intro h
        all_goals simp only [Option.some.injEq, Prod.mk.injEq, Bool.false_eq_true, and_false] at h
        all_goals exact h.1.symm
     ·simp [Zi.f, Zi.j0, Zab.f, hu2, ZaC, hn, hk, hp] at h
    ·simp [Zi.f, Zi.j0, Zab.f, hu2, ZaC, hn, hk] at h
   ·simp [Zi.f, Zi.j0, Zab.f, hu2, ZaC, hn] at h
theorem Ze7 (t : Int) (ht : I64 t) : ∃ h, I64 h ∧ Zac.f t = some h ∧ Zaq.f t = some h := by
 obtain ⟨g, i, b, hu1, hu2, -⟩ := Zdf t ht.hi
 unfold Zac.f Zaq.f
 rw [hu1, hu2]
 simp only [Option.bind_some]
 cases b with
 | true => exact ⟨t, ht, rfl, rfl⟩
 | false => exact ⟨0, Gd, rfl, rfl⟩
theorem ZdV (n : Int) (l : List Int) (hl : l.length ≤ 1048576) (hB : ∀ y ∈ l, I64 y) (kd a x pc p c w r v : Int) (done : Bool) (hkd : I64 kd) (ha : I64 a) (hx : I64 x) (hpc : I64 pc) (hp : I64 p) (hc : I64 c) (hw : I64 w) (hr : I64 r) (hv : I64 v) :
 ∃ (m : List Int) (r1 r2 r3 r4 r5 r6 r7 r8 r9 : Int) (r10 r11 : Bool), (m.length ≤ l.length ∧ ∀ y ∈ m, I64 y) ∧ (I64 r1 ∧ I64 r2 ∧ I64 r3 ∧ I64 r4 ∧ I64 r5 ∧ I64 r6 ∧ I64 r7 ∧ I64 r8 ∧ I64 r9) ∧ ∀ k, 30 ≤ k → Zd.f n l kd a x pc p c w r v done = some (m, r1, r2, r3, r4, r5, r6, r7, r8, r9, r10, r11) ∧ Zg.f n l kd a x pc p c w r v done = some (m, r1, r2, r3, r4, r5, r6, r7, r8, r9, r10, r11) := by
 obtain ⟨q0, q1, q2, q3, q4, ⟨hq2, hq3⟩, h1, h2⟩ := ZeF 0 n kd a x pc p c w r v done ha hc hw
 obtain ⟨m, t, q, hm, hs, hi⟩ := Zd1 l hl hB q0 q1 q2 q3 hq2 hq3
 obtain ⟨ht, hcas⟩ := Zd0 l hl hB q0 q1 q2 q3 m t q hi
 by_cases ok : q4 = true
 ·subst ok
  by_cases hq : q = true
  ·subst hq
   by_cases hlen : (l.length : Int) = wrap64 (1 + n)
   ·have hb : ((l.length : Int) != wrap64 (1 + n)) = false := by simp [hlen]
    obtain ⟨rfl, hkd, hpc⟩ := ZfC 0 n kd a x pc p c w r v done hw.hi q0 q1 q2 q3 h2
    have key : ∃ (r1 r2 r3 r4 r5 r6 r7 r8 r9 : Int) (r10 r11 : Bool), (I64 r1 ∧ I64 r2 ∧ I64 r3 ∧ I64 r4 ∧ I64 r5 ∧ I64 r6 ∧ I64 r7 ∧ I64 r8 ∧ I64 r9) ∧ ∀ k : Nat, Zd.j0 t false kd a x pc p c w r v false m = some (m, r1, r2, r3, r4, r5, r6, r7, r8, r9, r10, r11) ∧ Zg.j0 false l kd a x pc p c w r v false q0 q1 q2 q3 = some (m, r1, r2, r3, r4, r5, r6, r7, r8, r9, r10, r11) := by
     obtain ⟨g, i, b, hu1, hu2, hi0, hi1, -⟩ := Zdf w hw.hi
     rcases hpc with rfl | rfl | ⟨rfl, rfl⟩
     ·obtain ⟨h, hh, hd1, hd2⟩ := Ze7 t ht
      obtain ⟨g2, i2, b2, hv1, hv2, hj0, hj1, -⟩ := Zdf h hh.hi
      have hwi : wrap64 (i2 - 1) = i2 - 1 := w64 (by omega) (by omega)
      rcases hkd with rfl | rfl
      ·refine ⟨1, a, x, wrap64 (0 + 1), p, c, h, r, v, false, true, Gd, fun k => ⟨?_, ?_⟩⟩
       rotate_left
       ·simp only [Zg.j0, Zg.j3, hi, hd2, Zab.f, hv2, Option.bind_some, Bool.false_eq_true, if_false, if_true, show ¬ ((1 : Int) = 2) by decide]
       ·simp only [Zd.j0, Zd.j1, Zd.j5, Zv.f, hd1, hv1, Option.bind_some, Bool.false_eq_true, if_false, if_true, show ¬ ((1 : Int) = 2) by decide]
      ·by_cases hz : i2 = 0
       ·subst hz
        refine ⟨2, a, x, wrap64 (0 + 1), p, c, h, 2, v, true, true, Gd, fun k => ⟨?_, ?_⟩⟩
        rotate_left
        ·simp only [Zg.j0, Zg.j3, hi, hd2, Zab.f, hv2, Zb.f, Option.bind_some, Bool.false_eq_true, if_false, if_true, hwi, show ((0 : Int) - 1 < 0) by decide]
        ·simp only [Zd.j0, Zd.j1, Zd.j5, Zv.f, Zm.f, hd1, hv1, Option.bind_some, Bool.false_eq_true, if_false, if_true, beq_self_eq_true]
       ·have hz' : (i2 == 0) = false := by simp [hz]
        refine ⟨2, a, x, wrap64 (0 + 1), p, c, h, r, v, false, true, Gd, fun k => ⟨?_, ?_⟩⟩
        rotate_left
        ·simp only [Zg.j0, Zg.j3, hi, hd2, Zab.f, hv2, Zb.f, Option.bind_some, Bool.false_eq_true, if_false, if_true, hwi, show ¬ (i2 - 1 < 0) by omega]
        ·simp only [Zd.j0, Zd.j1, Zd.j5, Zv.f, Zm.f, hd1, hv1, Option.bind_some, Bool.false_eq_true, if_false, if_true, hz']
     ·rcases hkd with rfl | rfl
      ·refine ⟨1, a, x, wrap64 (1 + 1), p, c, w, r, v, false, true, Gd, fun k => ⟨?_, ?_⟩⟩
       rotate_left
       ·simp only [Zg.j0, Zg.j1, Zg.j2, Zg.j3, hi, Option.bind_some, Bool.false_eq_true, if_false, if_true, show ¬ ((1 : Int) = 0) by decide, show ¬ ((1 : Int) = 2) by decide, show ((1 : Int) == 2) = false by decide]
       ·simp only [Zd.j0, Zd.j2, Zd.j3, Zd.j5, Option.bind_some, Bool.false_eq_true, if_false, if_true, show ¬ ((1 : Int) = 0) by decide, show ¬ ((1 : Int) = 2) by decide, show ((1 : Int) == 2) = false by decide]
      ·by_cases hz : 0 ≤ t ∧ t ≤ 1048575
       ·refine ⟨2, a, x, wrap64 (1 + 1), p, t, w, r, v, false, true, Gd, fun k => ⟨?_, ?_⟩⟩
        rotate_left
        ·simp only [Zg.j0, Zg.j1, Zg.j2, Zg.j3, hi, ZaC, decide_eq_true hz, Option.bind_some, Bool.false_eq_true, if_false, if_true, show ¬ ((1 : Int) = 0) by decide, beq_self_eq_true]
        ·simp only [Zd.j0, Zd.j2, Zd.j3, Zd.j5, ZbS, decide_eq_true hz, Option.bind_some, Bool.false_eq_true, if_false, if_true, show ¬ ((1 : Int) = 0) by decide, beq_self_eq_true]
       ·refine ⟨2, a, x, wrap64 (1 + 1), p, 0, w, r, v, false, true, Gd, fun k => ⟨?_, ?_⟩⟩
        rotate_left
        ·simp only [Zg.j0, Zg.j1, Zg.j2, Zg.j3, hi, ZaC, decide_eq_false hz, Option.bind_some, Bool.false_eq_true, if_false, if_true, show ¬ ((1 : Int) = 0) by decide, beq_self_eq_true]
        ·simp only [Zd.j0, Zd.j2, Zd.j3, Zd.j5, ZbS, decide_eq_false hz, Option.bind_some, Bool.false_eq_true, if_false, if_true, show ¬ ((1 : Int) = 0) by decide, beq_self_eq_true]
     ·have hwi : wrap64 (i - 1) = i - 1 := w64 (by omega) (by omega)
      rcases hcas rfl with rfl | rfl
      ·refine ⟨kd, a, x, 0, p, c, w, r, v, false, true, Gd, fun k => ⟨?_, ?_⟩⟩
       rotate_left
       ·simp only [Zg.j0, Zg.j1, Zg.j2, Zg.j3, hi, Option.bind_some, Bool.false_eq_true, if_false, if_true, show ¬ ((2 : Int) = 0) by decide, show ¬ ((2 : Int) = 1) by decide, show ((0 : Int) == 1) = false by decide]
       ·simp only [Zd.j0, Zd.j2, Zd.j3, Zd.j5, Option.bind_some, Bool.false_eq_true, if_false, if_true, show ¬ ((2 : Int) = 0) by decide, show ¬ ((2 : Int) = 1) by decide, beq_self_eq_true]
      ·rcases hkd with rfl | rfl
       ·refine ⟨1, a, x, wrap64 (2 + 1), p, c, w, 1, v, true, true, Gd, fun k => ⟨?_, ?_⟩⟩
        rotate_left
        ·simp only [Zg.j0, Zg.j1, Zg.j2, Zg.j3, hi, Zb.f, Option.bind_some, Bool.false_eq_true, if_false, if_true, show ¬ ((2 : Int) = 0) by decide, show ¬ ((2 : Int) = 1) by decide, show ¬ ((1 : Int) = 2) by decide, beq_self_eq_true]
        ·simp only [Zd.j0, Zd.j2, Zd.j3, Zd.j4, Zd.j5, Zm.f, Option.bind_some, Bool.false_eq_true, if_false, if_true, show ¬ ((2 : Int) = 0) by decide, show ¬ ((2 : Int) = 1) by decide, show ¬ ((1 : Int) = 2) by decide, show ((1 : Int) == 0) = false by decide]
       ·refine ⟨2, a, x, wrap64 (2 + 1), p, c, w, 1, wrap64 (i - 1), true, true, Gd, fun k => ⟨?_, ?_⟩⟩
        rotate_left
        ·simp only [Zg.j0, Zg.j1, Zg.j2, Zg.j3, hi, Zb.f, Zab.f, hu2, Option.bind_some, Bool.false_eq_true, if_false, if_true, show ¬ ((2 : Int) = 0) by decide, show ¬ ((2 : Int) = 1) by decide, beq_self_eq_true]
        ·simp only [Zd.j0, Zd.j2, Zd.j3, Zd.j4, Zd.j5, Zm.f, ZQ.f, Zv.f, hu1, Option.bind_some, Bool.false_eq_true, if_false, if_true, show ¬ ((2 : Int) = 0) by decide, show ¬ ((2 : Int) = 1) by decide, show ((1 : Int) == 0) = false by decide]
    obtain ⟨r1, r2, r3, r4, r5, r6, r7, r8, r9, r10, r11, hR, hk⟩ := key
    refine ⟨m, r1, r2, r3, r4, r5, r6, r7, r8, r9, r10, r11, hm, hR, fun k hk30 => ?_⟩
    obtain ⟨k, rfl⟩ : ∃ e, k = e + 10 := ⟨k - 10, by omega⟩
    unfold Zd.f Zg.f
    rw [h1, h2]
    simp only [Option.bind_some, hs, if_true, hb]
    exact hk k
   ·have hb : ((l.length : Int) != wrap64 (1 + n)) = true := by simp [hlen]
    refine ⟨[], 0, 0, 0, 0, 0, 0, 0, 0, 0, false, false, by simp, Gd, fun k hk => ?_⟩
    obtain ⟨k, rfl⟩ : ∃ e, k = e + 10 := ⟨k - 10, by omega⟩
    unfold Zd.f Zg.f
    rw [h1, h2]
    simp only [Option.bind_some, hs, if_true, hb, Zd.j0, Zg.j0, and_self]
  ·obtain rfl : q = false := by simpa using hq
   refine ⟨[], 0, 0, 0, 0, 0, 0, 0, 0, 0, false, false, by simp, Gd, fun k hk => ?_⟩
   obtain ⟨k, rfl⟩ : ∃ e, k = e + 10 := ⟨k - 10, by omega⟩
   unfold Zd.f Zg.f
   rw [h1, h2]
   simp only [Option.bind_some, hs, hi, if_true, if_false, Bool.false_eq_true, Zd.j0, Zg.j0, ite_self, and_self]
 ·obtain rfl : q4 = false := by simpa using ok
  refine ⟨[], 0, 0, 0, 0, 0, 0, 0, 0, 0, false, false, by simp, Gd, fun k hk => ?_⟩
  obtain ⟨k, rfl⟩ : ∃ e, k = e + 10 := ⟨k - 10, by omega⟩
  unfold Zd.f Zg.f
  rw [h1, h2]
  simp only [Option.bind_some, hs, if_true, if_false, Bool.false_eq_true, Zd.j0, Zg.j0, ite_self, and_self]
theorem ZeG (k : Nat) (n kd a x pc p c w r v : Int) (done : Bool) (ha : I64 a) (hx : I64 x) (hp64 : I64 p) :
 ∃ q0 q1 q2 q3 q4, (I64 q2 ∧ I64 q3) ∧ Zt.f n kd a x pc p c w r v done = some (q0, q1, q2, q3, q4) ∧ ZU.f n kd a x pc p c w r v done = some (q0, q1, q2, q3, q4) := by
 have hp0 := hp64.lo
 have hp1 := hp64.hi
 by_cases hd : done = true
 ·subst hd
  exact ⟨0, 0, 0, 0, false, Gd, by simp [Zt.f, Zt.j0], by simp [ZU.f, ZU.j0]⟩
 ·obtain rfl : done = false := by simpa using hd
  by_cases hn : 2 ≤ n ∧ n ≤ 16
  ·have hz : Zah.f n = some true := by unfold Zah.f; rw [if_pos (by omega), decide_eq_true hn.2]
   by_cases hk : kd = 1 ∨ kd = 2
   ·by_cases hp : pc = 0 ∨ pc = 1 ∨ pc = 2 ∨ pc = 3 ∨ pc = 4
    ·obtain ⟨hm1, hm2⟩ := modB p n (by omega) (by omega) hp0 hp1
     have m0 : 0 ≤ p % n := Int.emod_nonneg _ (by omega)
     have m1 : p % n < n := Int.emod_lt_of_pos _ (by omega)
     have e1 : wrap64 (2 * (p % n)) = 2 * (p % n) := w64 (by omega) (by omega)
     have e2 : wrap64 (2 + 2 * (p % n)) = 2 + 2 * (p % n) := w64 (by omega) (by omega)
     have e3 : wrap64 (2 + 2 * (p % n) + 1) = 2 + 2 * (p % n) + 1 := w64 (by omega) (by omega)
     have c0 : wrap64 (1 - 1) = 0 := by decide +kernel
     have c1 : wrap64 (2 - 1) = 1 := by decide +kernel
     have d0 : wrap64 (wrap64 (10 * 1) + 0) = 10 := by decide +kernel
     have d1 : wrap64 (wrap64 (10 * 1) + 1) = 11 := by decide +kernel
     have d2 : wrap64 (wrap64 (10 * 1) + 2) = 12 := by decide +kernel
     have d3 : wrap64 (wrap64 (10 * 1) + 3) = 13 := by decide +kernel
     have d4 : wrap64 (wrap64 (10 * 1) + 4) = 14 := by decide +kernel
     have f0 : wrap64 (wrap64 (10 * 2) + 0) = 20 := by decide +kernel
     have f1 : wrap64 (wrap64 (10 * 2) + 1) = 21 := by decide +kernel
     have f2 : wrap64 (wrap64 (10 * 2) + 2) = 22 := by decide +kernel
     have f3 : wrap64 (wrap64 (10 * 2) + 3) = 23 := by decide +kernel
     have f4 : wrap64 (wrap64 (10 * 2) + 4) = 24 := by decide +kernel
     rcases hk with rfl | rfl <;> rcases hp with rfl | rfl | rfl | rfl | rfl <;>
      refine ⟨_, _, _, _, _, ?_, by simp only [Zt.f, Zt.j0, Zt.j1, Zt.j2, Zt.j3, Zw.f, Zu.f, ZT.f, Zao.f, hz, hm1, Option.bind_some, d0, d1, d2, d3, d4, f0, f1, f2, f3, f4, c0, c1, e1, e2, e3]; rfl,
       by simp only [ZU.f, ZU.j0, ZU.j1, ZaC, hm2, Option.bind_some, c0, c1, e1, e2, e3, decide_eq_true hn]; rfl⟩ <;> exact Gd
    ·refine ⟨0, 0, 0, 0, false, Gd, ?_, ?_⟩
     ·have : pc < 0 ∨ (¬ pc < 0 ∧ pc > 4) := by omega
      rcases hk with rfl | rfl <;> rcases this with h | h <;> simp [Zt.f, Zt.j0, hz, h]
     ·have : ¬ (0 ≤ pc ∧ pc ≤ 4) := by omega
      rcases hk with rfl | rfl <;> simp [ZU.f, ZU.j0, ZaC, hn, this]
   ·refine ⟨0, 0, 0, 0, false, Gd, ?_, ?_⟩
    ·have : kd < 1 ∨ (¬ kd < 1 ∧ kd > 2) := by omega
     rcases this with h | h <;> simp [Zt.f, Zt.j0, hz, h]
    ·have : ¬ (1 ≤ kd ∧ kd ≤ 2) := by omega
     simp [ZU.f, ZU.j0, ZaC, hn, this]
  ·have hz : Zah.f n = some false := by
    unfold Zah.f
    split
    ·rw [decide_eq_false (by omega)]
    ·rfl
   exact ⟨0, 0, 0, 0, false, Gd, by simp [Zt.f, Zt.j0, hz], by simp [ZU.f, ZU.j0, ZaC, hn]⟩
theorem ZdW (n : Int) (l : List Int) (hl : l.length ≤ 1048576) (hB : ∀ y ∈ l, I64 y) (kd a x pc p c w r v : Int) (done : Bool) (hkd : I64 kd) (ha : I64 a) (hx : I64 x) (hpc : I64 pc) (hp : I64 p) (hc : I64 c) (hw : I64 w) (hr : I64 r) (hv : I64 v) :
 ∃ (m : List Int) (r1 r2 r3 r4 r5 r6 r7 r8 r9 : Int) (r10 r11 : Bool), (m.length ≤ l.length ∧ ∀ y ∈ m, I64 y) ∧ (I64 r1 ∧ I64 r2 ∧ I64 r3 ∧ I64 r4 ∧ I64 r5 ∧ I64 r6 ∧ I64 r7 ∧ I64 r8 ∧ I64 r9) ∧ ∀ k, 30 ≤ k → Ze.f n l kd a x pc p c w r v done = some (m, r1, r2, r3, r4, r5, r6, r7, r8, r9, r10, r11) ∧ Zc.f n l kd a x pc p c w r v done = some (m, r1, r2, r3, r4, r5, r6, r7, r8, r9, r10, r11) := by
 obtain ⟨q0, q1, q2, q3, q4, ⟨hq2, hq3⟩, h1, h2⟩ := ZeG 0 n kd a x pc p c w r v done ha hx hp
 obtain ⟨m, t, q, hm, hs, hi⟩ := Zd1 l hl hB q0 q1 q2 q3 hq2 hq3
 obtain ⟨ht, -⟩ := Zd0 l hl hB q0 q1 q2 q3 m t q hi
 by_cases ok : q4 = true
 ·subst ok
  by_cases hq : q = true
  ·subst hq
   by_cases hlen : (l.length : Int) = wrap64 (2 + wrap64 (2 * n))
   ·have hb : ((l.length : Int) != wrap64 (2 + wrap64 (2 * n))) = false := by simp [hlen]
    have key : ∃ (r1 r2 r3 r4 r5 r6 r7 r8 r9 : Int) (r10 r11 : Bool), (I64 r1 ∧ I64 r2 ∧ I64 r3 ∧ I64 r4 ∧ I64 r5 ∧ I64 r6 ∧ I64 r7 ∧ I64 r8 ∧ I64 r9) ∧ ∀ k : Nat, Ze.j0 t false kd a x pc p c w r v done m = some (m, r1, r2, r3, r4, r5, r6, r7, r8, r9, r10, r11) ∧ Zc.j0 false l kd a x pc p c w r v done q0 q1 q2 q3 = some (m, r1, r2, r3, r4, r5, r6, r7, r8, r9, r10, r11) := by
     have h10 : ¬ ((1 : Int) = 0) := by decide
     have h11 : ((1 : Int) = 1) = True := by simp
     by_cases p0 : pc = 0
     ·refine ⟨kd, a, x, wrap64 (pc + 1), t, c, w, r, v, done, true, Gd, fun k => ⟨?_, ?_⟩⟩
      rotate_left
      ·simp only [Zc.j0, Zc.j1, Zc.j2, Zc.j3, Zb.f, hi, p0, Option.bind_some, Bool.false_eq_true, if_false, if_true]
      ·simp only [Ze.j0, Ze.j1, Ze.j2, Ze.j3, Zj.f, Zj.j0, Zj.j1, Zm.f, p0, Option.bind_some, Bool.false_eq_true, if_false, if_true]
     ·by_cases p1 : pc = 1
      ·subst p1
       by_cases hk2 : kd = 2
       ·subst hk2
        generalize hd : wrap64 (t - wrap64 (p + 1)) = d
        by_cases d0 : d < 0
        ·refine ⟨2, a, x, wrap64 (1 + 1), p, t, w, 2, v, true, true, Gd, fun k => ⟨?_, ?_⟩⟩
         rotate_left
         ·simp only [Zc.j0, Zc.j1, Zc.j2, Zc.j3, Zb.f, hi, d0, hd, show ((2 : Int) == 1) = false by decide, hd, h10, h11, Option.bind_some, Bool.false_eq_true, if_false, if_true]
         ·simp only [Ze.j0, Ze.j1, Ze.j2, Ze.j3, Zj.f, Zj.j0, Zj.j1, Zm.f, d0, hd, show ((2 : Int) == 1) = false by decide, hd, h10, h11, Option.bind_some, Bool.false_eq_true, if_false, if_true]
        ·by_cases d1 : d > 0
         ·refine ⟨2, a, x, 0, p, t, w, r, v, done, true, Gd, fun k => ⟨?_, ?_⟩⟩
          rotate_left
          ·simp only [Zc.j0, Zc.j1, Zc.j2, Zc.j3, Zb.f, hi, d0, hd, hd, h10, h11, d1, Option.bind_some, Bool.false_eq_true, if_false, if_true]
          ·simp only [Ze.j0, Ze.j1, Ze.j2, Ze.j3, Zj.f, Zj.j0, Zj.j1, Zm.f, d0, hd, hd, h10, h11, d1, Option.bind_some, Bool.false_eq_true, if_false, if_true]
         ·refine ⟨2, a, x, wrap64 (1 + 1), p, t, w, r, v, done, true, Gd, fun k => ⟨?_, ?_⟩⟩
          rotate_left
          ·simp only [Zc.j0, Zc.j1, Zc.j2, Zc.j3, Zb.f, hi, d0, hd, hd, h10, h11, d1, Option.bind_some, Bool.false_eq_true, if_false, if_true]
          ·simp only [Ze.j0, Ze.j1, Ze.j2, Ze.j3, Zj.f, Zj.j0, Zj.j1, Zm.f, d0, hd, hd, h10, h11, d1, Option.bind_some, Bool.false_eq_true, if_false, if_true]
       ·by_cases hk1_ : kd = 1
        ·subst hk1_
         generalize hd : wrap64 (t - p) = d
         by_cases d0 : d < 0
         ·refine ⟨1, a, x, wrap64 (1 + 1), p, t, w, 3, v, true, true, Gd, fun k => ⟨?_, ?_⟩⟩
          rotate_left
          ·simp only [Zc.j0, Zc.j1, Zc.j2, Zc.j3, Zb.f, hi, d0, hd, show ((1 : Int) == 1) = true by decide, show ¬ ((1 : Int) = 2) by decide, h10, h11, Option.bind_some, Bool.false_eq_true, if_false, if_true]
          ·simp only [Ze.j0, Ze.j1, Ze.j2, Ze.j3, Zj.f, Zj.j0, Zj.j1, Zm.f, d0, hd, show ((1 : Int) == 1) = true by decide, show ¬ ((1 : Int) = 2) by decide, h10, h11, Option.bind_some, Bool.false_eq_true, if_false, if_true]
         ·by_cases d1 : d > 0
          ·refine ⟨1, a, x, 0, p, t, w, r, v, done, true, Gd, fun k => ⟨?_, ?_⟩⟩
           rotate_left
           ·simp only [Zc.j0, Zc.j1, Zc.j2, Zc.j3, Zb.f, hi, d0, hd, show ¬ ((1 : Int) = 2) by decide, h10, h11, d1, Option.bind_some, Bool.false_eq_true, if_false, if_true]
           ·simp only [Ze.j0, Ze.j1, Ze.j2, Ze.j3, Zj.f, Zj.j0, Zj.j1, Zm.f, d0, hd, show ¬ ((1 : Int) = 2) by decide, h10, h11, d1, Option.bind_some, Bool.false_eq_true, if_false, if_true]
          ·refine ⟨1, a, x, wrap64 (1 + 1), p, t, w, r, v, done, true, Gd, fun k => ⟨?_, ?_⟩⟩
           rotate_left
           ·simp only [Zc.j0, Zc.j1, Zc.j2, Zc.j3, Zb.f, hi, d0, hd, show ¬ ((1 : Int) = 2) by decide, h10, h11, d1, Option.bind_some, Bool.false_eq_true, if_false, if_true]
           ·simp only [Ze.j0, Ze.j1, Ze.j2, Ze.j3, Zj.f, Zj.j0, Zj.j1, Zm.f, d0, hd, show ¬ ((1 : Int) = 2) by decide, h10, h11, d1, Option.bind_some, Bool.false_eq_true, if_false, if_true]
        ·have hk1 : (kd == 1) = false := by simp [hk1_]
         generalize hd : wrap64 (t - p) = d
         by_cases d0 : d < 0
         ·refine ⟨kd, a, x, wrap64 (1 + 1), p, t, w, 2, v, true, true, Gd, fun k => ⟨?_, ?_⟩⟩
          rotate_left
          ·simp only [Zc.j0, Zc.j1, Zc.j2, Zc.j3, Zb.f, hi, d0, hd, hk1, hk2, h10, h11, Option.bind_some, Bool.false_eq_true, if_false, if_true]
          ·simp only [Ze.j0, Ze.j1, Ze.j2, Ze.j3, Zj.f, Zj.j0, Zj.j1, Zm.f, d0, hd, hk1, hk2, h10, h11, Option.bind_some, Bool.false_eq_true, if_false, if_true]
         ·by_cases d1 : d > 0
          ·refine ⟨kd, a, x, 0, p, t, w, r, v, done, true, Gd, fun k => ⟨?_, ?_⟩⟩
           rotate_left
           ·simp only [Zc.j0, Zc.j1, Zc.j2, Zc.j3, Zb.f, hi, d0, hd, hk2, h10, h11, d1, Option.bind_some, Bool.false_eq_true, if_false, if_true]
           ·simp only [Ze.j0, Ze.j1, Ze.j2, Ze.j3, Zj.f, Zj.j0, Zj.j1, Zm.f, d0, hd, hk2, h10, h11, d1, Option.bind_some, Bool.false_eq_true, if_false, if_true]
          ·refine ⟨kd, a, x, wrap64 (1 + 1), p, t, w, r, v, done, true, Gd, fun k => ⟨?_, ?_⟩⟩
           rotate_left
           ·simp only [Zc.j0, Zc.j1, Zc.j2, Zc.j3, Zb.f, hi, d0, hd, hk2, h10, h11, d1, Option.bind_some, Bool.false_eq_true, if_false, if_true]
           ·simp only [Ze.j0, Ze.j1, Ze.j2, Ze.j3, Zj.f, Zj.j0, Zj.j1, Zm.f, d0, hd, hk2, h10, h11, d1, Option.bind_some, Bool.false_eq_true, if_false, if_true]
      ·by_cases p2 : pc = 2
       ·subst p2
        have h20 : ¬ ((2 : Int) = 0) := by decide
        have h21 : ¬ ((2 : Int) = 1) := by decide
        have h23 : ¬ ((2 : Int) = 3) := by decide
        have h24 : ¬ ((2 : Int) = 4) := by decide
        by_cases t0 : t = 0
        ·refine ⟨kd, a, x, 0, p, c, w, r, v, done, true, Gd, fun k => ⟨?_, ?_⟩⟩
         rotate_left
         ·simp only [Zc.j0, Zc.j1, Zc.j2, Zc.j3, Zb.f, hi, h20, h21, t0, Option.bind_some, Bool.false_eq_true, if_false, if_true]
         ·simp only [Ze.j0, Ze.j1, Ze.j2, Ze.j3, Zj.f, Zj.j0, Zj.j1, Zm.f, h20, h21, t0, beq_self_eq_true, Option.bind_some, Bool.false_eq_true, if_false, if_true]
        ·have t1 : (t == 0) = false := by simp [t0]
         refine ⟨kd, a, x, wrap64 (2 + 1), p, c, w, r, v, done, true, Gd, fun k => ⟨?_, ?_⟩⟩
         rotate_left
         ·simp only [Zc.j0, Zc.j1, Zc.j2, Zc.j3, Zb.f, hi, h20, h21, t0, Option.bind_some, Bool.false_eq_true, if_false, if_true]
         ·simp only [Ze.j0, Ze.j1, Ze.j2, Ze.j3, Zj.f, Zj.j0, Zj.j1, Zm.f, h20, h21, h23, h24, t1, Option.bind_some, Bool.false_eq_true, if_false, if_true]
       ·by_cases p3 : pc = 3
        ·subst p3
         have h30 : ¬ ((3 : Int) = 0) := by decide
         have h31 : ¬ ((3 : Int) = 1) := by decide
         have h32 : ¬ ((3 : Int) = 2) := by decide
         have h34 : ¬ ((3 : Int) = 4) := by decide
         by_cases hk2 : kd = 2
         ·refine ⟨kd, a, x, wrap64 (3 + 1), p, c, w, r, t, done, true, Gd, fun k => ⟨?_, ?_⟩⟩
          rotate_left
          ·simp only [Zc.j0, Zc.j1, Zc.j2, Zc.j3, Zb.f, hi, h30, h31, h32, hk2, Option.bind_some, Bool.false_eq_true, if_false, if_true]
          ·simp only [Ze.j0, Ze.j1, Ze.j2, Ze.j3, Zj.f, Zj.j0, Zj.j1, Zm.f, h30, h31, h32, hk2, beq_self_eq_true, Option.bind_some, Bool.false_eq_true, if_false, if_true]
         ·have hk3 : (kd == 2) = false := by simp [hk2]
          refine ⟨kd, a, x, wrap64 (3 + 1), p, c, w, r, v, done, true, Gd, fun k => ⟨?_, ?_⟩⟩
          rotate_left
          ·simp only [Zc.j0, Zc.j1, Zc.j2, Zc.j3, Zb.f, hi, h30, h31, h32, hk2, Option.bind_some, Bool.false_eq_true, if_false, if_true]
          ·simp only [Ze.j0, Ze.j1, Ze.j2, Ze.j3, Zj.f, Zj.j0, Zj.j1, Zm.f, h30, h31, h32, h34, hk3, Option.bind_some, Bool.false_eq_true, if_false, if_true]
        ·by_cases p4 : pc = 4
         ·subst p4
          have h40 : ¬ ((4 : Int) = 0) := by decide
          have h41 : ¬ ((4 : Int) = 1) := by decide
          have h42 : ¬ ((4 : Int) = 2) := by decide
          have h43 : ¬ ((4 : Int) = 3) := by decide
          refine ⟨kd, a, x, wrap64 (4 + 1), p, c, w, 1, v, true, true, Gd, fun k => ⟨?_, ?_⟩⟩
          rotate_left
          ·simp only [Zc.j0, Zc.j1, Zc.j2, Zc.j3, Zb.f, hi, h40, h41, h42, h43, Option.bind_some, Bool.false_eq_true, if_false, if_true]
          ·simp only [Ze.j0, Ze.j1, Ze.j2, Ze.j3, Zj.f, Zj.j0, Zj.j1, Zm.f, h40, h41, h42, h43, Option.bind_some, Bool.false_eq_true, if_false, if_true]
         ·refine ⟨kd, a, x, wrap64 (pc + 1), p, c, w, r, v, done, true, Gd, fun k => ⟨?_, ?_⟩⟩
          rotate_left
          ·simp only [Zc.j0, Zc.j1, Zc.j2, Zc.j3, Zb.f, hi, p0, p1, p2, p3, p4, Option.bind_some, Bool.false_eq_true, if_false, if_true]
          ·simp only [Ze.j0, Ze.j1, Ze.j2, Ze.j3, Zj.f, Zj.j0, Zj.j1, Zm.f, p0, p1, p2, p3, p4, Option.bind_some, Bool.false_eq_true, if_false, if_true]
    obtain ⟨r1, r2, r3, r4, r5, r6, r7, r8, r9, r10, r11, hR, hk⟩ := key
    refine ⟨m, r1, r2, r3, r4, r5, r6, r7, r8, r9, r10, r11, hm, hR, fun k hk30 => ?_⟩
    obtain ⟨k, rfl⟩ : ∃ e, k = e + 10 := ⟨k - 10, by omega⟩
    unfold Ze.f Zc.f
    rw [h1, h2]
    simp only [Option.bind_some, hs, if_true, hb]
    exact hk k
   ·have hb : ((l.length : Int) != wrap64 (2 + wrap64 (2 * n))) = true := by simp [hlen]
    refine ⟨[], 0, 0, 0, 0, 0, 0, 0, 0, 0, false, false, by simp, Gd, fun k hk => ?_⟩
    obtain ⟨k, rfl⟩ : ∃ e, k = e + 10 := ⟨k - 10, by omega⟩
    unfold Ze.f Zc.f
    rw [h1, h2]
    simp only [Option.bind_some, hs, if_true, hb, Ze.j0, Zc.j0, and_self]
  ·obtain rfl : q = false := by simpa using hq
   refine ⟨[], 0, 0, 0, 0, 0, 0, 0, 0, 0, false, false, by simp, Gd, fun k hk => ?_⟩
   obtain ⟨k, rfl⟩ : ∃ e, k = e + 10 := ⟨k - 10, by omega⟩
   unfold Ze.f Zc.f
   rw [h1, h2]
   simp only [Option.bind_some, hs, hi, if_true, if_false, Bool.false_eq_true, Ze.j0, Zc.j0, ite_self, and_self]
 ·obtain rfl : q4 = false := by simpa using ok
  refine ⟨[], 0, 0, 0, 0, 0, 0, 0, 0, 0, false, false, by simp, Gd, fun k hk => ?_⟩
  obtain ⟨k, rfl⟩ : ∃ e, k = e + 10 := ⟨k - 10, by omega⟩
  unfold Ze.f Zc.f
  rw [h1, h2]
  simp only [Option.bind_some, hs, if_true, if_false, Bool.false_eq_true, Ze.j0, Zc.j0, ite_self, and_self]
theorem half (c : Int) (h0 : 0 ≤ c) (h1 : c ≤ 9223372036854775807) : wrap64 (Int.tdiv c 2) = c / 2 := by
 rw [Int.tdiv_eq_ediv_of_nonneg h0, w64 (by omega) (by omega)]
def nd (c : Int) : Int := wrap64 (wrap64 (Int.tdiv c 2) - 1)
theorem Zgy (c : Int) (h0 : 0 ≤ c) (h1 : c ≤ 9223372036854775807) : nd c = c / 2 - 1 := by
 unfold nd; rw [half c h0 h1, w64 (by omega) (by omega)]
def lB (n c : Int) : Bool := decide (0 ≤ c ∧ c / 2 ≤ n)
def gB (c : Int) : Bool := decide (0 ≤ nd c)
def xB (n x : Int) : Bool := decide (0 ≤ x ∧ x ≤ n - 1)
theorem Zc6 (n c : Int) (h1 : c ≤ 9223372036854775807) : ZV.f n c = some (lB n c) := by
 unfold ZV.f lB
 by_cases h : c ≥ 0
 ·have h' : 0 ≤ c := h
  rw [if_pos h, half c h' h1]; simp [h']
 ·have h' : ¬ 0 ≤ c := h
  rw [if_neg h]; simp [h']
theorem Zej (n c : Int) (h1 : c ≤ 9223372036854775807) : ZX.f n c = some (lB n c && gB c) := by
 unfold ZX.f
 rw [Zc6 n c h1]
 simp only [Option.bind_some]
 by_cases h : lB n c = true
 ·rw [if_pos h, h]
  simp only [lB, decide_eq_true_eq] at h
  rw [half c h.1 h1]
  refine congrArg some ?_
  unfold gB
  rw [Zgy c h.1 h1, Bool.true_and, Bool.eq_iff_iff]
  simp only [decide_eq_true_eq]; omega
 ·rw [if_neg h]; simp at h; simp [h]
theorem Ze6 (n c : Int) (hn : 1 ≤ n ∧ n ≤ 16) (h1 : c ≤ 9223372036854775807) : Zr.f c n = some (lB n c) := by
 unfold Zr.f lB Zq.f
 by_cases h : c ≥ 0
 ·have h' : 0 ≤ c := h
  rw [if_pos h, half c h' h1, w64 (by omega) (by omega)]
  simp only [Option.bind_some, h', true_and]
  refine congrArg some ?_
  rw [Bool.eq_iff_iff]; simp only [decide_eq_true_eq]; omega
 ·have h' : ¬ 0 ≤ c := h
  rw [if_neg h]; simp [h']
def pOk (n p : Int) : Bool := decide (0 ≤ p ∧ p ≤ 2 * n ∧ p % 2 = 0)
def mayB (n kd x pc c w : Int) : Bool :=
 if pc = 0 then true else if pc = 1 ∨ pc = 2 then lB n c && gB c else if kd = 3 then false else if pc = 3 then lB n c && gB c && lB n w
 else if 4 ≤ pc ∧ pc ≤ 6 then decide (kd = 1) && xB n x && lB n c else if pc = 7 ∧ kd = 2 then lB n c && gB c && lB n w else false
theorem Zgn (p : Int) : (Int.tmod p 2 != 0) = decide (¬ p % 2 = 0) := by
 rw [Int.tmod_eq_emod, Bool.eq_iff_iff]
 simp only [bne_iff_ne, ne_eq, decide_eq_true_eq]
 split <;> simp <;> omega
def pcs (pc : Int) : Prop := pc = 0 ∨ pc = 1 ∨ pc = 2 ∨ pc = 3 ∨ pc = 4 ∨ pc = 5 ∨ pc = 6 ∨ pc = 7 ∨ pc < 0 ∨ 7 < pc
theorem ZdM (pc : Int) : pcs pc := by unfold pcs; omega
theorem May (k : Nat) (n kd a x pc p c w r v : Int) (done : Bool) (hn : 1 ≤ n ∧ n ≤ 16) (hk : 1 ≤ kd ∧ kd ≤ 3) (hc : c ≤ 9223372036854775807) (hw : w ≤ 9223372036854775807) (hd : done = false) :
 ZO.f n kd a x pc p c w r v done = some (pOk n p && mayB n kd x pc c w) := by
 subst hd
 have hz : Zx.f n = some true := by unfold Zx.f; rw [if_pos (by omega), decide_eq_true hn.2]
 have hwn : wrap64 (2 * n) = 2 * n := w64 (by omega) (by omega)
 have hwn1 : wrap64 (n - 1) = n - 1 := w64 (by omega) (by omega)
 have hx : ZP.f x 0 (n - 1) = some (xB n x) := ZbS x 0 (n - 1)
 have step : ∀ q, ZO.j0 n q kd a x pc p c w r v false = some (!q && mayB n kd x pc c w) := by
  intro q
  cases q with
  | true => simp [ZO.j0]
  | false =>
    simp only [ZO.j0, ZO.j1, ZO.j2, Zej n c hc, Zc6 n c hc, Zc6 n w hw, hx, hwn1, Option.bind_some, Bool.not_false, Bool.true_and]
    unfold mayB
    generalize lB n c = L
    generalize gB c = G
    generalize lB n w = M
    generalize xB n x = X
    rcases (show kd = 1 ∨ kd = 2 ∨ kd = 3 by omega) with rfl | rfl | rfl <;> rcases ZdM pc with rfl | rfl | rfl | rfl | rfl | rfl | rfl | rfl | h | h <;>
     first
     | (cases L <;> cases G <;> cases M <;> cases X <;> rfl)
     | (have e0 : ¬ pc = 0 := by omega
        have e1 : ¬ pc = 1 := by omega
        have e2 : ¬ pc = 2 := by omega
        have e3 : ¬ pc = 3 := by omega
        have e4 : ¬ (4 ≤ pc ∧ pc ≤ 6) := by omega
        have e7 : ¬ pc = 7 := by omega
        have e5 : 4 ≤ pc → ¬ pc ≤ 6 := fun h h2 => e4 ⟨h, h2⟩
        by_cases e6 : 4 ≤ pc
        ·simp [e0, e1, e2, e3, e7, e6, e5 e6]
        ·simp [e0, e1, e2, e3, e7, e6])
 unfold ZO.f
 rw [if_neg (by simp), hz]
 simp only [Option.bind_some, if_true, hwn, Zgn, step]
 rw [if_neg (by omega), if_neg (by omega)]
 unfold pOk
 repeat' split
 all_goals (refine congrArg some (congrArg (· && mayB n kd x pc c w) ?_); rw [Bool.eq_iff_iff]; simp only [Bool.not_eq_true', Bool.not_true, Bool.false_eq_true, decide_eq_true_eq, decide_eq_false_iff_not, false_iff]; omega)
def fin (pc a x p c w t : Int) : TA :=
 if pc = 0 then (1, p, 0, 0, true) else if pc = 1 then (1, wrap64 (2 + wrap64 (2 * t)), 0, 0, true) else if pc = 2 then (1, wrap64 (1 + wrap64 (2 * t)), 0, 0, true) else if pc = 3 then (3, p, c, wrap64 (w - Int.tmod w 2), true)
 else if pc = 4 then (2, wrap64 (1 + wrap64 (2 * x)), a, 0, true) else if pc = 5 then (2, wrap64 (2 + wrap64 (2 * x)), c, 0, true) else if pc = 6 then (3, p, c, wrap64 (2 * wrap64 (x + 1)), true)
 else (3, wrap64 (2 + wrap64 (2 * t)), w, wrap64 (wrap64 (w - Int.tmod w 2) + 1), true)
def zro : TA := (0, 0, 0, 0, false)
def c2 (n x pc c : Int) : Bool := (if (1 ≤ pc ∧ pc ≤ 3) ∨ pc = 7 then gB c else true) && (if 4 ≤ pc ∧ pc ≤ 6 then xB n x else true)
def c1 (n pc c w : Int) : Bool := (if pc > 0 then lB n c else true) && (if pc = 3 ∨ pc = 7 then lB n w else true)
def ZbM (kd pc : Int) : Bool := decide ((kd = 1 ∧ 0 ≤ pc ∧ pc ≤ 6) ∨ (kd = 2 ∧ (0 ≤ pc ∧ pc ≤ 3 ∨ pc = 7)) ∨ (kd = 3 ∧ 0 ≤ pc ∧ pc ≤ 2))
section
variable (n kd a x pc p c w r v : Int)
theorem j3_ (t : Int) (q : Bool) : Za.j3 t q kd a x pc p c w r v false = some (if q = true then zro else fin pc a x p c w t) := by
 simp only [Za.j3, Zl.f, Zs.f, Option.bind_some, fin, zro]
 repeat' split
 all_goals rfl
theorem j2_ (q : Bool) (hn : 1 ≤ n ∧ n ≤ 16) : Za.j2 n q kd a x pc p c w r v false = some (if (!q && c2 n x pc c) = true then fin pc a x p c w (nd c) else zro) := by
 have hwn1 : wrap64 (n - 1) = n - 1 := w64 (by omega) (by omega)
 have e : Zq.f c = some (nd c) := rfl
 have hx : impl_within.f x 0 (n - 1) = some (xB n x) := ZaC x 0 (n - 1)
 cases q with
 | true => simp [Za.j2, zro]
 | false =>
   simp only [Za.j2, e, hwn1, hx, Option.bind_some, j3_, Bool.false_eq_true, if_false, Bool.not_false, Bool.true_and]
   simp only [ZaC, Option.bind_some, decide_eq_true_eq]
   unfold c2 gB
   cases xB n x <;> repeat' split
   all_goals first | rfl | (exfalso; omega) | (exfalso; simp at *; done) | (exfalso; simp at *; omega)
theorem j1_ (q : Bool) (hn : 1 ≤ n ∧ n ≤ 16) (hc : c ≤ 9223372036854775807) (hw : w ≤ 9223372036854775807) :
 Za.j1 n q kd a x pc p c w r v false = some (if (!q && c1 n pc c w && c2 n x pc c) = true then fin pc a x p c w (nd c) else zro) := by
 cases q with
 | true => simp [Za.j1, zro]
 | false =>
   simp only [Za.j1, Ze6 n c hn hc, Ze6 n w hn hw, Option.bind_some, j2_ n kd a x pc p c w r v _ hn, Bool.false_eq_true, if_false, Bool.not_false, Bool.true_and, Bool.not_not]
   unfold c1
   cases c2 n x pc c <;> cases lB n c <;> cases lB n w <;> repeat' split
   all_goals first | rfl | (exfalso; omega) | (exfalso; simp at *; done) | (exfalso; simp at *; omega)
theorem j0_ (q : Bool) (hn : 1 ≤ n ∧ n ≤ 16) (hc : c ≤ 9223372036854775807) (hw : w ≤ 9223372036854775807) :
 Za.j0 n q kd a x pc p c w r v false = some (if (!q && pOk n p && c1 n pc c w && c2 n x pc c) = true then fin pc a x p c w (nd c) else zro) := by
 have l0 : Zl.f 0 = some 2 := by unfold Zl.f; exact congrArg some (by decide +kernel)
 have l1 : Zl.f (wrap64 (n - 1)) = some (2 * n) := by
  unfold Zl.f
  rw [w64 (x := n - 1) (by omega) (by omega), w64 (x := 2 * (n - 1)) (by omega) (by omega), w64 (by omega) (by omega)]
  exact congrArg some (by omega)
 cases q with
 | true => simp [Za.j0, zro]
 | false =>
   simp only [Za.j0, l0, l1, ZaC, Zgn, Option.bind_some, j1_ n kd a x pc p c w r v _ hn hc hw, Bool.false_eq_true, if_false, decide_eq_true_eq, Bool.not_false, Bool.true_and, Bool.not_true, Bool.false_and]
   have hp : pOk n p = (if p = 0 then true else if 2 ≤ p ∧ p ≤ 2 * n then !decide (¬ p % 2 = 0) else false) := by
    unfold pOk
    rw [Bool.eq_iff_iff]
    repeat' split
    all_goals (simp only [decide_eq_true_eq, Bool.not_eq_true', decide_eq_false_iff_not, Bool.false_eq_true, iff_false, iff_true]; omega)
   rw [hp]
   repeat' split
   all_goals first | rfl | (simp_all; done)
theorem ZgB : Zp.f kd pc = some (ZbM kd pc) := by
 unfold Zp.f ZbM
 simp only [ZaC, Option.bind_some, decide_eq_true_eq]
 repeat' split
 all_goals (refine congrArg some ?_; rw [Bool.eq_iff_iff]; simp only [beq_iff_eq, decide_eq_true_eq, Bool.false_eq_true, true_iff, false_iff]; omega)
theorem Zb2 (hn : 1 ≤ n ∧ n ≤ 16) (hc : c ≤ 9223372036854775807) (hw : w ≤ 9223372036854775807) :
 Za.f n kd a x pc p c w r v false = some (if (ZbM kd pc && pOk n p && c1 n pc c w && c2 n x pc c) = true then fin pc a x p c w (nd c) else zro) := by
 unfold Za.f
 rw [if_neg (by simp), ZaC]
 simp only [Option.bind_some, decide_eq_true hn, if_true, ZgB, j0_ n kd a x pc p c w r v _ hn hc hw, Bool.not_not]
theorem ZfQ (h : lB n c = true) : 0 ≤ c := by
 simp only [lB, decide_eq_true_eq] at h; exact h.1
theorem ZeH (hn : 1 ≤ n ∧ n ≤ 16) (hk : 1 ≤ kd ∧ kd ≤ 3) (hc : c ≤ 9223372036854775807) (hw : w ≤ 9223372036854775807) :
 Zai.f n kd a x pc p c w r v false = some (if (pOk n p && mayB n kd x pc c w) = true then fin pc a x p c w (nd c) else zro) := by
 have e : Z8.f c = some (nd c) := rfl
 unfold Zai.f
 rw [May 0 n kd a x pc p c w r v false hn hk hc hw rfl, e]
 simp only [Option.bind_some, Zw.f, Zu.f, ZT.f]
 by_cases h : (pOk n p && mayB n kd x pc c w) = true
 ·rw [if_pos h, if_pos h]
  have hm := (Bool.and_eq_true_iff.1 h).2
  unfold fin
  have hw2 : lB n w = true → wrap64 (wrap64 (Int.tdiv w 2) * 2) = wrap64 (w - Int.tmod w 2) := by
   intro h0
   have h0 := ZfQ n w h0
   rw [half w h0 hw, Int.tmod_eq_emod_of_nonneg h0]
   congr 1; omega
  rcases ZdM pc with rfl | rfl | rfl | rfl | rfl | rfl | rfl | rfl | h | h
  ·rfl
  ·rfl
  ·rfl
  ·have : lB n w = true := by
    cases h9 : lB n w
    ·simp [mayB, h9] at hm
    ·rfl
   simp [hw2 this]
  ·rfl
  ·rfl
  ·rfl
  ·have : lB n w = true := by
    cases h9 : lB n w
    ·simp [mayB, h9] at hm
    ·rfl
   simp [hw2 this]
  ·exfalso; unfold mayB at hm
   rw [if_neg (by omega), if_neg (by omega)] at hm
   split at hm
   ·simp at hm
   ·rw [if_neg (by omega), if_neg (by omega), if_neg (by omega)] at hm; simp at hm
  ·exfalso; unfold mayB at hm
   rw [if_neg (by omega), if_neg (by omega)] at hm
   split at hm
   ·simp at hm
   ·rw [if_neg (by omega), if_neg (by omega), if_neg (by omega)] at hm; simp at hm
 ·rw [if_neg h, if_neg h]; rfl
theorem Zfo (hk : 1 ≤ kd ∧ kd ≤ 3) : (ZbM kd pc && c1 n pc c w && c2 n x pc c) = mayB n kd x pc c w := by
 unfold c1 c2 mayB
 generalize lB n c = L
 generalize gB c = G
 generalize lB n w = M
 generalize xB n x = X
 rcases (show kd = 1 ∨ kd = 2 ∨ kd = 3 by omega) with rfl | rfl | rfl <;> rcases ZdM pc with rfl | rfl | rfl | rfl | rfl | rfl | rfl | rfl | h | h <;>
  first
  | (cases L <;> cases G <;> cases M <;> cases X <;> rfl)
  | (have s : ∀ q, 1 ≤ q → q ≤ 3 → ZbM q pc = false := fun q _ _ => by unfold ZbM; rw [decide_eq_false (by omega)]
     have e0 : ¬ pc = 0 := by omega
     have e1 : ¬ pc = 1 := by omega
     have e2 : ¬ pc = 2 := by omega
     have e3 : ¬ pc = 3 := by omega
     have e7 : ¬ pc = 7 := by omega
     by_cases e6 : 4 ≤ pc
     ·have e5 : ¬ pc ≤ 6 := by omega
      simp [s, e0, e1, e2, e3, e7, e6, e5]
     ·simp [s, e0, e1, e2, e3, e7, e6])
theorem Zgf (ha : I64 a) (hc : I64 c) (hw : I64 w) (g : Bool) (t : Int) : I64 (if g = true then fin pc a x p c w t else zro).2.2.1 ∧ I64 (if g = true then fin pc a x p c w t else zro).2.2.2.1 := by
 unfold fin zro
 repeat' split
 all_goals (dsimp only; exact Gd)
theorem ZeI (done : Bool) (ha : I64 a) (hc64 : I64 c) (hw64 : I64 w) :
 ∃ q0 q1 q2 q3 q4, (I64 q2 ∧ I64 q3) ∧ Zai.f n kd a x pc p c w r v done = some (q0, q1, q2, q3, q4) ∧ Za.f n kd a x pc p c w r v done = some (q0, q1, q2, q3, q4) := by
 have hc := hc64.hi
 have hw := hw64.hi
 by_cases hd : done = true
 ·subst hd
  exact ⟨0, 0, 0, 0, false, Gd, by simp [Zai.f, ZO.f, ZO.j0], by simp [Za.f, Za.j0]⟩
 ·obtain rfl : done = false := by simpa using hd
  by_cases hn : 1 ≤ n ∧ n ≤ 16
  ·have hz : Zx.f n = some true := by unfold Zx.f; rw [if_pos (by omega), decide_eq_true hn.2]
   by_cases hk : 1 ≤ kd ∧ kd ≤ 3
   ·have h1 := ZeH n kd a x pc p c w r v hn hk hc hw
    have h2 := Zb2 n kd a x pc p c w r v hn hc hw
    rw [show (ZbM kd pc && pOk n p && c1 n pc c w && c2 n x pc c) = (pOk n p && (ZbM kd pc && c1 n pc c w && c2 n x pc c)) by cases ZbM kd pc <;> cases pOk n p <;> simp, Zfo n kd x pc c w hk] at h2
    exact ⟨_, _, _, _, _, Zgf a x pc p c w ha hc64 hw64 _ _, h1, h2⟩
   ·refine ⟨0, 0, 0, 0, false, Gd, ?_, ?_⟩
    ·have : kd < 1 ∨ (¬ kd < 1 ∧ kd > 3) := by omega
     rcases this with h | h <;> simp [Zai.f, ZO.f, ZO.j0, hz, h]
    ·have : ZbM kd pc = false := by unfold ZbM; rw [decide_eq_false (by omega)]
     have h2 := Zb2 n kd a x pc p c w r v hn hc hw
     rw [this] at h2
     exact h2
  ·have hz : Zx.f n = some false := by
    unfold Zx.f
    split
    ·rw [decide_eq_false (by omega)]
    ·rfl
   exact ⟨0, 0, 0, 0, false, Gd, by simp [Zai.f, ZO.f, ZO.j0, hz], by simp [Za.f, Za.j0, ZaC, hn]⟩
end
theorem ZfD (k : Nat) (n kd a x pc p c w r v : Int) (done : Bool) (hc : c ≤ 9223372036854775807) (hw : w ≤ 9223372036854775807) (q0 q1 q2 q3 : Int) (h : Za.f n kd a x pc p c w r v done = some (q0, q1, q2, q3, true)) :
 (1 ≤ n ∧ n ≤ 16) ∧ ((kd = 1 ∧ 0 ≤ pc ∧ pc ≤ 6) ∨ (kd = 2 ∧ (0 ≤ pc ∧ pc ≤ 3 ∨ pc = 7)) ∨ (kd = 3 ∧ 0 ≤ pc ∧ pc ≤ 2)) ∧ (6 ≤ pc → q0 = 3) := by
 cases done with
 | true => simp [Za.f, Za.j0] at h
 | false =>
   by_cases hn : 1 ≤ n ∧ n ≤ 16
   ·rw [Zb2 n kd a x pc p c w r v hn hc hw] at h
    split at h
    ·rename_i hs
     have hs1 : ZbM kd pc = true := by
      cases e : ZbM kd pc
      ·simp [e] at hs
      ·rfl
     have hs2 := hs1
     unfold ZbM at hs2
     rw [decide_eq_true_eq] at hs2
     refine ⟨hn, hs2, fun h6 => ?_⟩
     rcases (show pc = 6 ∨ pc = 7 by omega) with rfl | rfl
     ·simp [fin] at h; exact h.1.symm
     ·simp [fin] at h; exact h.1.symm
    ·simp [zro] at h
   ·simp [Za.f, Za.j0, ZaC, hn] at h
section
attribute [local simp] Zo.j0 Zo.j1 Zo.j2 Zy.f Zy.j0 ZR.f ZR.j0 ZR.j1 ZS.f Zz.f Zm.f Z8.f Zh.j0 Zh.j1 Zh.j2 Zh.j3 Zh.j4 Zf.f Zf.j0 Zf.j1 Zf.j2 Z1.f Zk.f Zb.f Zl.f
theorem ZgP (n : Int) (hn : 1 ≤ n ∧ n ≤ 16) (l m : List Int) (hm : m.length ≤ l.length ∧ ∀ y ∈ m, I64 y) (t q0 q1 q2 q3 : Int) (ht64 : I64 t) (hi : Do.f l q0 q1 q2 q3 = some (m, t, true)) (kd a x pc p c w r v : Int) (done : Bool) (hkd : I64 kd) (ha : I64 a) (hx : I64 x) (hpc : I64 pc) (hp : I64 p) (hc : I64 c) (hw : I64 w) (hr : I64 r) (hv : I64 v)
 (hk : (kd = 1 ∧ 0 ≤ pc ∧ pc ≤ 6) ∨ (kd = 2 ∧ (0 ≤ pc ∧ pc ≤ 3 ∨ pc = 7)) ∨ (kd = 3 ∧ 0 ≤ pc ∧ pc ≤ 2)) (h01 : 6 ≤ pc → t = 0 ∨ t = 1) :
 ∃ (m2 : List Int) (r1 r2 r3 r4 r5 r6 r7 r8 r9 : Int) (r10 r11 : Bool), (m2.length ≤ l.length ∧ ∀ y ∈ m2, I64 y) ∧ (I64 r1 ∧ I64 r2 ∧ I64 r3 ∧ I64 r4 ∧ I64 r5 ∧ I64 r6 ∧ I64 r7 ∧ I64 r8 ∧ I64 r9) ∧ ∀ k : Nat, Zo.j0 n t false kd a x pc p c w r v done m = some (m2, r1, r2, r3, r4, r5, r6, r7, r8, r9, r10, r11) ∧ Zh.j0 n false l kd a x pc p c w r v done q0 q1 q2 q3 = some (m2, r1, r2, r3, r4, r5, r6, r7, r8, r9, r10, r11) := by
 have ht := ht64.hi
 have eL := Zc6 n t ht
 have eT := Zej n t ht
 have eI := Ze6 n t hn ht
 have eN : Zq.f t = some (nd t) := rfl
 have eNc : Zq.f c = some (nd c) := rfl
 have hnd : wrap64 (wrap64 (Int.tdiv c 2) - 1) = nd c := rfl
 have tm : lB n t = true → Int.tmod t 2 = 0 ∨ Int.tmod t 2 = 1 := by
  intro h0
  have h0 := ZfQ n t h0
  rw [Int.tmod_eq_emod_of_nonneg h0]; omega
 have w1 : wrap64 1 = 1 := by decide +kernel
 have w2 : wrap64 2 = 2 := by decide +kernel
 have w3 : wrap64 3 = 3 := by decide +kernel
 have w4 : wrap64 4 = 4 := by decide +kernel
 have w5 : wrap64 5 = 5 := by decide +kernel
 have w6 : wrap64 6 = 6 := by decide +kernel
 have w7 : wrap64 7 = 7 := by decide +kernel
 have w8 : wrap64 8 = 8 := by decide +kernel
 rcases (show kd = 1 ∨ kd = 2 ∨ kd = 3 by omega) with rfl | rfl | rfl
 ·rcases (show pc = 0 ∨ pc = 1 ∨ pc = 2 ∨ pc = 3 ∨ pc = 4 ∨ pc = 5 ∨ pc = 6 by omega) with rfl | rfl | rfl | rfl | rfl | rfl | rfl
  ·skip
   cases hL : lB n t
   ·skip
    refine ⟨[], 0, 0, 0, 0, 0, 0, 0, 0, 0, false, false, by simp, Gd, fun k => ⟨?_, ?_⟩⟩
    ·simp [eL, eT, w1, w2, w3, w4, w5, w6, w7, w8, hL]
    ·simp [hi, eI, eN, eNc, w1, w2, w3, w4, w5, w6, w7, w8, hL]
   ·rcases tm hL with hM | hM
    ·skip
     by_cases hG : nd t < 0
     ·have hG2 : gB t = false := by unfold gB; rw [decide_eq_false (by omega)]
      refine ⟨m, 1, a, x, 4, p, t, w, r, v, done, true, hm, Gd, fun k => ⟨?_, ?_⟩⟩
      ·simp [eL, eT, w1, w2, w3, w4, w5, w6, w7, w8, hL, hM, hG, hG2]
      ·simp [hi, eI, eN, eNc, w1, w2, w3, w4, w5, w6, w7, w8, hL, hM, hG, hG2]
     ·have hG2 : gB t = true := by unfold gB; rw [decide_eq_true (by omega)]
      refine ⟨m, 1, a, x, 1, p, t, w, r, v, done, true, hm, Gd, fun k => ⟨?_, ?_⟩⟩
      ·simp [eL, eT, w1, w2, w3, w4, w5, w6, w7, w8, hL, hM, hG, hG2]
      ·simp [hi, eI, eN, eNc, w1, w2, w3, w4, w5, w6, w7, w8, hL, hM, hG, hG2]
    ·skip
     refine ⟨m, 1, a, x, 0, 0, t, w, r, v, done, true, hm, Gd, fun k => ⟨?_, ?_⟩⟩
     ·simp [eL, eT, w1, w2, w3, w4, w5, w6, w7, w8, hL, hM]
     ·simp [hi, eI, eN, eNc, w1, w2, w3, w4, w5, w6, w7, w8, hL, hM]
  ·skip
   cases hL : lB n t
   ·skip
    refine ⟨[], 0, 0, 0, 0, 0, 0, 0, 0, 0, false, false, by simp, Gd, fun k => ⟨?_, ?_⟩⟩
    ·simp [eL, eT, w1, w2, w3, w4, w5, w6, w7, w8, hL]
    ·simp [hi, eI, eN, eNc, w1, w2, w3, w4, w5, w6, w7, w8, hL]
   ·rcases tm hL with hM | hM
    ·skip
     refine ⟨m, 1, a, x, 2, p, c, t, r, v, done, true, hm, Gd, fun k => ⟨?_, ?_⟩⟩
     ·simp [eL, eT, w1, w2, w3, w4, w5, w6, w7, w8, hL, hM]
     ·simp [hi, eI, eN, eNc, w1, w2, w3, w4, w5, w6, w7, w8, hL, hM]
    ·skip
     refine ⟨m, 1, a, x, 3, p, c, t, r, v, done, true, hm, Gd, fun k => ⟨?_, ?_⟩⟩
     ·simp [eL, eT, w1, w2, w3, w4, w5, w6, w7, w8, hL, hM]
     ·simp [hi, eI, eN, eNc, w1, w2, w3, w4, w5, w6, w7, w8, hL, hM]
  ·skip
   by_cases hA : t < a
   ·skip
    refine ⟨m, 1, a, x, 0, wrap64 (2 + wrap64 (2 * nd c)), c, w, r, t, done, true, hm, Gd, fun k => ⟨?_, ?_⟩⟩
    ·simp [eL, eT, w1, w2, w3, w4, w5, w6, w7, w8, hA, hnd]
    ·simp [hi, eI, eN, eNc, w1, w2, w3, w4, w5, w6, w7, w8, hA, hnd]
   ·by_cases hE : t = a
    ·subst hE
     have hlt : ¬ t < t := by omega
     refine ⟨m, 1, t, x, 3, p, c, w, 4, t, true, true, hm, Gd, fun k => ⟨?_, ?_⟩⟩
     ·simp [eL, eT, w1, w2, w3, w4, w5, w6, w7, w8, hlt]
     ·simp [hi, eI, eN, eNc, w1, w2, w3, w4, w5, w6, w7, w8, hlt]
    ·have hgt : a < t := by omega
     refine ⟨m, 1, a, x, 4, p, c, w, r, t, done, true, hm, Gd, fun k => ⟨?_, ?_⟩⟩
     ·simp [eL, eT, w1, w2, w3, w4, w5, w6, w7, w8, hA, hE, hgt]
     ·simp [hi, eI, eN, eNc, w1, w2, w3, w4, w5, w6, w7, w8, hA, hE, hgt]
  ·skip
   by_cases hE : t = 0
   ·skip
    refine ⟨m, 1, a, x, 0, 0, c, w, r, v, done, true, hm, Gd, fun k => ⟨?_, ?_⟩⟩
    ·simp [eL, eT, w1, w2, w3, w4, w5, w6, w7, w8, hE]
    ·simp [hi, eI, eN, eNc, w1, w2, w3, w4, w5, w6, w7, w8, hE]
   ·skip
    refine ⟨m, 1, a, x, 0, p, c, w, r, v, done, true, hm, Gd, fun k => ⟨?_, ?_⟩⟩
    ·simp [eL, eT, w1, w2, w3, w4, w5, w6, w7, w8, hE]
    ·simp [hi, eI, eN, eNc, w1, w2, w3, w4, w5, w6, w7, w8, hE]
  ·skip
   refine ⟨m, 1, a, x, 5, p, c, w, r, v, done, true, hm, Gd, fun k => ⟨?_, ?_⟩⟩
   ·simp [eL, eT, w1, w2, w3, w4, w5, w6, w7, w8]
   ·simp [hi, eI, eN, eNc, w1, w2, w3, w4, w5, w6, w7, w8]
  ·skip
   refine ⟨m, 1, a, x, 6, p, c, w, r, v, done, true, hm, Gd, fun k => ⟨?_, ?_⟩⟩
   ·simp [eL, eT, w1, w2, w3, w4, w5, w6, w7, w8]
   ·simp [hi, eI, eN, eNc, w1, w2, w3, w4, w5, w6, w7, w8]
  ·skip
   rcases h01 (by omega) with hE | hE
   ·skip
    refine ⟨m, 1, a, x, 0, 0, c, w, r, v, done, true, hm, Gd, fun k => ⟨?_, ?_⟩⟩
    ·simp [eL, eT, w1, w2, w3, w4, w5, w6, w7, w8, hE]
    ·simp [hi, eI, eN, eNc, w1, w2, w3, w4, w5, w6, w7, w8, hE]
   ·skip
    refine ⟨m, 1, a, x, 7, p, c, w, 1, v, true, true, hm, Gd, fun k => ⟨?_, ?_⟩⟩
    ·simp [eL, eT, w1, w2, w3, w4, w5, w6, w7, w8, hE]
    ·simp [hi, eI, eN, eNc, w1, w2, w3, w4, w5, w6, w7, w8, hE]
 ·rcases (show pc = 0 ∨ pc = 1 ∨ pc = 2 ∨ pc = 3 ∨ pc = 7 by omega) with rfl | rfl | rfl | rfl | rfl
  ·skip
   cases hL : lB n t
   ·skip
    refine ⟨[], 0, 0, 0, 0, 0, 0, 0, 0, 0, false, false, by simp, Gd, fun k => ⟨?_, ?_⟩⟩
    ·simp [eL, eT, w1, w2, w3, w4, w5, w6, w7, w8, hL]
    ·simp [hi, eI, eN, eNc, w1, w2, w3, w4, w5, w6, w7, w8, hL]
   ·rcases tm hL with hM | hM
    ·skip
     by_cases hG : nd t < 0
     ·have hG2 : gB t = false := by unfold gB; rw [decide_eq_false (by omega)]
      refine ⟨m, 2, a, x, 1, p, t, w, 4, v, true, true, hm, Gd, fun k => ⟨?_, ?_⟩⟩
      ·simp [eL, eT, w1, w2, w3, w4, w5, w6, w7, w8, hL, hM, hG, hG2]
      ·simp [hi, eI, eN, eNc, w1, w2, w3, w4, w5, w6, w7, w8, hL, hM, hG, hG2]
     ·have hG2 : gB t = true := by unfold gB; rw [decide_eq_true (by omega)]
      refine ⟨m, 2, a, x, 1, p, t, w, r, v, done, true, hm, Gd, fun k => ⟨?_, ?_⟩⟩
      ·simp [eL, eT, w1, w2, w3, w4, w5, w6, w7, w8, hL, hM, hG, hG2]
      ·simp [hi, eI, eN, eNc, w1, w2, w3, w4, w5, w6, w7, w8, hL, hM, hG, hG2]
    ·skip
     refine ⟨m, 2, a, x, 0, 0, t, w, r, v, done, true, hm, Gd, fun k => ⟨?_, ?_⟩⟩
     ·simp [eL, eT, w1, w2, w3, w4, w5, w6, w7, w8, hL, hM]
     ·simp [hi, eI, eN, eNc, w1, w2, w3, w4, w5, w6, w7, w8, hL, hM]
  ·skip
   cases hL : lB n t
   ·skip
    refine ⟨[], 0, 0, 0, 0, 0, 0, 0, 0, 0, false, false, by simp, Gd, fun k => ⟨?_, ?_⟩⟩
    ·simp [eL, eT, w1, w2, w3, w4, w5, w6, w7, w8, hL]
    ·simp [hi, eI, eN, eNc, w1, w2, w3, w4, w5, w6, w7, w8, hL]
   ·rcases tm hL with hM | hM
    ·skip
     refine ⟨m, 2, a, x, 2, p, c, t, r, v, done, true, hm, Gd, fun k => ⟨?_, ?_⟩⟩
     ·simp [eL, eT, w1, w2, w3, w4, w5, w6, w7, w8, hL, hM]
     ·simp [hi, eI, eN, eNc, w1, w2, w3, w4, w5, w6, w7, w8, hL, hM]
    ·skip
     refine ⟨m, 2, a, x, 3, p, c, t, r, v, done, true, hm, Gd, fun k => ⟨?_, ?_⟩⟩
     ·simp [eL, eT, w1, w2, w3, w4, w5, w6, w7, w8, hL, hM]
     ·simp [hi, eI, eN, eNc, w1, w2, w3, w4, w5, w6, w7, w8, hL, hM]
  ·skip
   by_cases hA : t < a
   ·skip
    refine ⟨m, 2, a, x, 0, wrap64 (2 + wrap64 (2 * nd c)), c, w, r, t, done, true, hm, Gd, fun k => ⟨?_, ?_⟩⟩
    ·simp [eL, eT, w1, w2, w3, w4, w5, w6, w7, w8, hA, hnd]
    ·simp [hi, eI, eN, eNc, w1, w2, w3, w4, w5, w6, w7, w8, hA, hnd]
   ·by_cases hE : t = a
    ·subst hE
     have hlt : ¬ t < t := by omega
     refine ⟨m, 2, t, x, 7, p, c, w, r, t, done, true, hm, Gd, fun k => ⟨?_, ?_⟩⟩
     ·simp [eL, eT, w1, w2, w3, w4, w5, w6, w7, w8, hlt]
     ·simp [hi, eI, eN, eNc, w1, w2, w3, w4, w5, w6, w7, w8, hlt]
    ·have hgt : a < t := by omega
     refine ⟨m, 2, a, x, 3, p, c, w, 4, t, true, true, hm, Gd, fun k => ⟨?_, ?_⟩⟩
     ·simp [eL, eT, w1, w2, w3, w4, w5, w6, w7, w8, hA, hE, hgt]
     ·simp [hi, eI, eN, eNc, w1, w2, w3, w4, w5, w6, w7, w8, hA, hE, hgt]
  ·skip
   by_cases hE : t = 0
   ·skip
    refine ⟨m, 2, a, x, 0, 0, c, w, r, v, done, true, hm, Gd, fun k => ⟨?_, ?_⟩⟩
    ·simp [eL, eT, w1, w2, w3, w4, w5, w6, w7, w8, hE]
    ·simp [hi, eI, eN, eNc, w1, w2, w3, w4, w5, w6, w7, w8, hE]
   ·skip
    refine ⟨m, 2, a, x, 0, p, c, w, r, v, done, true, hm, Gd, fun k => ⟨?_, ?_⟩⟩
    ·simp [eL, eT, w1, w2, w3, w4, w5, w6, w7, w8, hE]
    ·simp [hi, eI, eN, eNc, w1, w2, w3, w4, w5, w6, w7, w8, hE]
  ·skip
   rcases h01 (by omega) with hE | hE
   ·skip
    refine ⟨m, 2, a, x, 0, 0, c, w, r, v, done, true, hm, Gd, fun k => ⟨?_, ?_⟩⟩
    ·simp [eL, eT, w1, w2, w3, w4, w5, w6, w7, w8, hE]
    ·simp [hi, eI, eN, eNc, w1, w2, w3, w4, w5, w6, w7, w8, hE]
   ·skip
    refine ⟨m, 2, a, x, 8, p, c, w, 1, v, true, true, hm, Gd, fun k => ⟨?_, ?_⟩⟩
    ·simp [eL, eT, w1, w2, w3, w4, w5, w6, w7, w8, hE]
    ·simp [hi, eI, eN, eNc, w1, w2, w3, w4, w5, w6, w7, w8, hE]
 ·rcases (show pc = 0 ∨ pc = 1 ∨ pc = 2 by omega) with rfl | rfl | rfl
  ·skip
   cases hL : lB n t
   ·skip
    refine ⟨[], 0, 0, 0, 0, 0, 0, 0, 0, 0, false, false, by simp, Gd, fun k => ⟨?_, ?_⟩⟩
    ·simp [eL, eT, w1, w2, w3, w4, w5, w6, w7, w8, hL]
    ·simp [hi, eI, eN, eNc, w1, w2, w3, w4, w5, w6, w7, w8, hL]
   ·rcases tm hL with hM | hM
    ·skip
     by_cases hG : nd t < 0
     ·have hG2 : gB t = false := by unfold gB; rw [decide_eq_false (by omega)]
      refine ⟨m, 3, a, x, 1, p, t, w, 4, v, true, true, hm, Gd, fun k => ⟨?_, ?_⟩⟩
      ·simp [eL, eT, w1, w2, w3, w4, w5, w6, w7, w8, hL, hM, hG, hG2]
      ·simp [hi, eI, eN, eNc, w1, w2, w3, w4, w5, w6, w7, w8, hL, hM, hG, hG2]
     ·have hG2 : gB t = true := by unfold gB; rw [decide_eq_true (by omega)]
      refine ⟨m, 3, a, x, 1, p, t, w, r, v, done, true, hm, Gd, fun k => ⟨?_, ?_⟩⟩
      ·simp [eL, eT, w1, w2, w3, w4, w5, w6, w7, w8, hL, hM, hG, hG2]
      ·simp [hi, eI, eN, eNc, w1, w2, w3, w4, w5, w6, w7, w8, hL, hM, hG, hG2]
    ·skip
     by_cases hG : nd t < 0
     ·have hG2 : gB t = false := by unfold gB; rw [decide_eq_false (by omega)]
      refine ⟨m, 3, a, x, 1, p, t, w, 4, v, true, true, hm, Gd, fun k => ⟨?_, ?_⟩⟩
      ·simp [eL, eT, w1, w2, w3, w4, w5, w6, w7, w8, hL, hM, hG, hG2]
      ·simp [hi, eI, eN, eNc, w1, w2, w3, w4, w5, w6, w7, w8, hL, hM, hG, hG2]
     ·have hG2 : gB t = true := by unfold gB; rw [decide_eq_true (by omega)]
      refine ⟨m, 3, a, x, 1, p, t, w, r, v, done, true, hm, Gd, fun k => ⟨?_, ?_⟩⟩
      ·simp [eL, eT, w1, w2, w3, w4, w5, w6, w7, w8, hL, hM, hG, hG2]
      ·simp [hi, eI, eN, eNc, w1, w2, w3, w4, w5, w6, w7, w8, hL, hM, hG, hG2]
  ·skip
   cases hL : lB n t
   ·skip
    refine ⟨[], 0, 0, 0, 0, 0, 0, 0, 0, 0, false, false, by simp, Gd, fun k => ⟨?_, ?_⟩⟩
    ·simp [eL, eT, w1, w2, w3, w4, w5, w6, w7, w8, hL]
    ·simp [hi, eI, eN, eNc, w1, w2, w3, w4, w5, w6, w7, w8, hL]
   ·rcases tm hL with hM | hM
    ·skip
     refine ⟨m, 3, a, x, 2, p, c, t, r, v, done, true, hm, Gd, fun k => ⟨?_, ?_⟩⟩
     ·simp [eL, eT, w1, w2, w3, w4, w5, w6, w7, w8, hL, hM]
     ·simp [hi, eI, eN, eNc, w1, w2, w3, w4, w5, w6, w7, w8, hL, hM]
    ·skip
     refine ⟨m, 3, a, x, 2, p, c, t, r, v, done, true, hm, Gd, fun k => ⟨?_, ?_⟩⟩
     ·simp [eL, eT, w1, w2, w3, w4, w5, w6, w7, w8, hL, hM]
     ·simp [hi, eI, eN, eNc, w1, w2, w3, w4, w5, w6, w7, w8, hL, hM]
  ·skip
   by_cases hA : t < a
   ·skip
    refine ⟨m, 3, a, x, 0, wrap64 (2 + wrap64 (2 * nd c)), c, w, r, t, done, true, hm, Gd, fun k => ⟨?_, ?_⟩⟩
    ·simp [eL, eT, w1, w2, w3, w4, w5, w6, w7, w8, hA, hnd]
    ·simp [hi, eI, eN, eNc, w1, w2, w3, w4, w5, w6, w7, w8, hA, hnd]
   ·by_cases hE : t = a
    ·subst hE
     have hlt : ¬ t < t := by omega
     by_cases hW : Int.tmod w 2 = 0
     ·skip
      refine ⟨m, 3, t, x, 3, p, c, w, 1, t, true, true, hm, Gd, fun k => ⟨?_, ?_⟩⟩
      ·simp [eL, eT, w1, w2, w3, w4, w5, w6, w7, w8, hlt, hW]
      ·simp [hi, eI, eN, eNc, w1, w2, w3, w4, w5, w6, w7, w8, hlt, hW]
     ·skip
      refine ⟨m, 3, t, x, 3, p, c, w, 4, t, true, true, hm, Gd, fun k => ⟨?_, ?_⟩⟩
      ·simp [eL, eT, w1, w2, w3, w4, w5, w6, w7, w8, hlt, hW]
      ·simp [hi, eI, eN, eNc, w1, w2, w3, w4, w5, w6, w7, w8, hlt, hW]
    ·have hgt : a < t := by omega
     refine ⟨m, 3, a, x, 3, p, c, w, 4, t, true, true, hm, Gd, fun k => ⟨?_, ?_⟩⟩
     ·simp [eL, eT, w1, w2, w3, w4, w5, w6, w7, w8, hA, hE, hgt]
     ·simp [hi, eI, eN, eNc, w1, w2, w3, w4, w5, w6, w7, w8, hA, hE, hgt]
end
theorem ZdZ (n : Int) (l : List Int) (hl : l.length ≤ 1048576) (hB : ∀ y ∈ l, I64 y) (kd a x pc p c w r v : Int) (done : Bool) (hkd : I64 kd) (ha : I64 a) (hx : I64 x) (hpc : I64 pc) (hp : I64 p) (hc : I64 c) (hw : I64 w) (hr : I64 r) (hv : I64 v) :
 ∃ (m2 : List Int) (r1 r2 r3 r4 r5 r6 r7 r8 r9 : Int) (r10 r11 : Bool), (m2.length ≤ l.length ∧ ∀ y ∈ m2, I64 y) ∧ (I64 r1 ∧ I64 r2 ∧ I64 r3 ∧ I64 r4 ∧ I64 r5 ∧ I64 r6 ∧ I64 r7 ∧ I64 r8 ∧ I64 r9) ∧ ∀ k, 30 ≤ k → Zo.f n l kd a x pc p c w r v done = some (m2, r1, r2, r3, r4, r5, r6, r7, r8, r9, r10, r11) ∧ Zh.f n l kd a x pc p c w r v done = some (m2, r1, r2, r3, r4, r5, r6, r7, r8, r9, r10, r11) := by
 obtain ⟨q0, q1, q2, q3, q4, ⟨hq2, hq3⟩, h1, h2⟩ := ZeI n kd a x pc p c w r v done ha hc hw
 obtain ⟨m, t, q, hm, hs, hi⟩ := Zd1 l hl hB q0 q1 q2 q3 hq2 hq3
 by_cases ok : q4 = true
 ·subst ok
  obtain ⟨hn, hkd9, h6⟩ := ZfD 0 n kd a x pc p c w r v done hc.hi hw.hi q0 q1 q2 q3 h2
  obtain ⟨ht, ht3⟩ := Zd0 l hl hB q0 q1 q2 q3 m t q hi
  by_cases hlen : (l.length : Int) = wrap64 (1 + wrap64 (2 * n))
  ·have hb : ((l.length : Int) != wrap64 (1 + wrap64 (2 * n))) = false := by simp [hlen]
   by_cases hq : q = true
   ·subst hq
    obtain ⟨m2, r1, r2, r3, r4, r5, r6, r7, r8, r9, r10, r11, hm2, hR, hk⟩ := ZgP n hn l m hm t q0 q1 q2 q3 ht hi kd a x pc p c w r v done hkd ha hx hpc hp hc hw hr hv hkd9 (fun h => ht3 (h6 h))
    refine ⟨m2, r1, r2, r3, r4, r5, r6, r7, r8, r9, r10, r11, hm2, hR, fun k hk30 => ?_⟩
    obtain ⟨k, rfl⟩ : ∃ e, k = e + 10 := ⟨k - 10, by omega⟩
    unfold Zo.f Zh.f
    rw [h1, h2]
    simp only [Option.bind_some, hs, if_true, hb]
    exact hk k
   ·obtain rfl : q = false := by simpa using hq
    refine ⟨[], 0, 0, 0, 0, 0, 0, 0, 0, 0, false, false, by simp, Gd, fun k hk => ?_⟩
    obtain ⟨k, rfl⟩ : ∃ e, k = e + 10 := ⟨k - 10, by omega⟩
    unfold Zo.f Zh.f
    rw [h1, h2]
    simp only [Option.bind_some, hs, hi, hb, if_true, if_false, Bool.false_eq_true, Zo.j0, Zh.j0, Zh.j1, ite_self, and_self]
  ·have hb : ((l.length : Int) != wrap64 (1 + wrap64 (2 * n))) = true := by simp [hlen]
   refine ⟨[], 0, 0, 0, 0, 0, 0, 0, 0, 0, false, false, by simp, Gd, fun k hk => ?_⟩
   obtain ⟨k, rfl⟩ : ∃ e, k = e + 10 := ⟨k - 10, by omega⟩
   unfold Zo.f Zh.f
   rw [h1, h2]
   simp only [Option.bind_some, hs, if_true, hb, Zo.j0, Zh.j0, ite_self, and_self]
 ·obtain rfl : q4 = false := by simpa using ok
  refine ⟨[], 0, 0, 0, 0, 0, 0, 0, 0, 0, false, false, by simp, Gd, fun k hk => ?_⟩
  obtain ⟨k, rfl⟩ : ∃ e, k = e + 10 := ⟨k - 10, by omega⟩
  unfold Zo.f Zh.f
  rw [h1, h2]
  simp only [Option.bind_some, hs, if_true, if_false, Bool.false_eq_true, Zo.j0, Zh.j0, ite_self, and_self]
end Go.Proofs.YtgghglocfdcegaaGreat.Xec.Plain
