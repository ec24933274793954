/- Part S3 of the proof of FnExactCrewStep and FnExactCrewRun (wip/xec, pack.py). No condition. -/
import Derived.Test.YtgghglocfdcegaaGreatKE
namespace Go.Proofs.YtgghglocfdcegaaGreat.Xec
open Go Go.RowKit Go.Proofs.YtgghglocfdcegaaGreat.PFnExactCrewRun Go.Proofs.YtgghglocfdcegaaGreatW.PrintWords
set_option linter.unusedVariables false
set_option linter.unusedSimpArgs false
set_option maxRecDepth 100000
set_option maxHeartbeats 16000000
def ZU.j2 (x0 : Int) (x75 : Bool) (a3 a6 a5 a1 a7 a2 a4 a8 a9 : Int) (c2 : Bool) : Option (Bool) := if x75 = true then (if a3 = 1 then ((Zy.f a5 0 (wrap64 (x0 - 1))).bind fun c3 => (if c3 = true then ((ZS.f x0 a2).bind fun c4 => (some c4)) else (some false))) else (some false)) else (if a1 = 7 then (if a3 = 2 then ((ZY.f x0 a2).bind fun c5 => (if c5 = true then ((ZS.f x0 a4).bind fun c6 => (some c6)) else (some false))) else (some false)) else (some false))
def ZU.j1 (x0 : Int) (x44 : Bool) (a3 a6 a5 a1 a7 a2 a4 a8 a9 : Int) (c2 : Bool) : Option (Bool) := if x44 = true then ((ZY.f x0 a2).bind fun c7 => (some c7)) else (if a3 = 3 then (some false) else (if a1 = 3 then ((ZY.f x0 a2).bind fun c8 => (if c8 = true then ((ZS.f x0 a4).bind fun c9 => (some c9)) else (some false))) else (if a1 ≥ 4 then (ZU.j2 x0 (decide (a1 ≤ 6)) a3 a6 a5 a1 a7 a2 a4 a8 a9 c2) else (ZU.j2 x0 false a3 a6 a5 a1 a7 a2 a4 a8 a9 c2))))
def ZU.j0 (x0 : Int) (x39 : Bool) (a3 a6 a5 a1 a7 a2 a4 a8 a9 : Int) (c2 : Bool) : Option (Bool) := if x39 = true then (some false) else (if a1 = 0 then (some true) else (if a1 = 1 then (ZU.j1 x0 true a3 a6 a5 a1 a7 a2 a4 a8 a9 c2) else (ZU.j1 x0 (a1 == 2) a3 a6 a5 a1 a7 a2 a4 a8 a9 c2)))
def ZU.f (a0 b0 b1 b2 b3 b4 b5 b6 b7 b8 : Int) (b9 : Bool) : Option (Bool) := if b9 = true then (ZU.j0 a0 true b0 b1 b2 b3 b4 b5 b6 b7 b8 b9) else ((ZR.f a0).bind fun d0 => (if d0 = true then (if b0 < 1 then (ZU.j0 a0 true b0 b1 b2 b3 b4 b5 b6 b7 b8 b9) else (if b0 > 3 then (ZU.j0 a0 true b0 b1 b2 b3 b4 b5 b6 b7 b8 b9) else (if b4 < 0 then (ZU.j0 a0 true b0 b1 b2 b3 b4 b5 b6 b7 b8 b9) else (if b4 > (wrap64 (2 * a0)) then (ZU.j0 a0 true b0 b1 b2 b3 b4 b5 b6 b7 b8 b9) else (ZU.j0 a0 ((Int.tmod b4 2) != 0) b0 b1 b2 b3 b4 b5 b6 b7 b8 b9))))) else (ZU.j0 a0 true b0 b1 b2 b3 b4 b5 b6 b7 b8 b9)))
def ZU.F (a0 b0 b1 b2 b3 b4 b5 b6 b7 b8 : Int) (b9 : Bool) : Bool := (ZU.f a0 b0 b1 b2 b3 b4 b5 b6 b7 b8 b9).getD (false)
theorem ZU.j2.isS (x0 : Int) (x75 : Bool) (a3 a6 a5 a1 a7 a2 a4 a8 a9 : Int) (c2 : Bool) : ∃ r, ZU.j2 x0 x75 a3 a6 a5 a1 a7 a2 a4 a8 a9 c2 = some r := by
 unfold ZU.j2
 (try simp only [ZR.tot, Zy.tot, ZS.tot, ZY.tot, Option.bind_some])
 repeat' (first | exact ⟨_, rfl⟩ | (exfalso; omega) | split)
theorem ZU.j1.isS (x0 : Int) (x44 : Bool) (a3 a6 a5 a1 a7 a2 a4 a8 a9 : Int) (c2 : Bool) : ∃ r, ZU.j1 x0 x44 a3 a6 a5 a1 a7 a2 a4 a8 a9 c2 = some r := by
 unfold ZU.j1
 (try simp only [ZR.tot, Zy.tot, ZS.tot, ZY.tot, Option.bind_some])
 repeat' (first | exact ⟨_, rfl⟩ | exact ZU.j2.isS .. | (exfalso; omega) | split)
theorem ZU.j0.isS (x0 : Int) (x39 : Bool) (a3 a6 a5 a1 a7 a2 a4 a8 a9 : Int) (c2 : Bool) : ∃ r, ZU.j0 x0 x39 a3 a6 a5 a1 a7 a2 a4 a8 a9 c2 = some r := by
 unfold ZU.j0
 (try simp only [ZR.tot, Zy.tot, ZS.tot, ZY.tot, Option.bind_some])
 repeat' (first | exact ⟨_, rfl⟩ | exact ZU.j2.isS .. | exact ZU.j1.isS .. | (exfalso; omega) | split)
theorem ZU.f.isS (a0 b0 b1 b2 b3 b4 b5 b6 b7 b8 : Int) (b9 : Bool) : ∃ r, ZU.f a0 b0 b1 b2 b3 b4 b5 b6 b7 b8 b9 = some r := by
 unfold ZU.f
 (try simp only [ZR.tot, Zy.tot, ZS.tot, ZY.tot, Option.bind_some])
 repeat' (first | exact ⟨_, rfl⟩ | exact ZU.j2.isS .. | exact ZU.j1.isS .. | exact ZU.j0.isS .. | (exfalso; omega) | split)
theorem ZU.tot (a0 b0 b1 b2 b3 b4 b5 b6 b7 b8 : Int) (b9 : Bool) : ZU.f a0 b0 b1 b2 b3 b4 b5 b6 b7 b8 b9 = some (ZU.F a0 b0 b1 b2 b3 b4 b5 b6 b7 b8 b9) := by
 obtain ⟨r, h⟩ := ZU.f.isS a0 b0 b1 b2 b3 b4 b5 b6 b7 b8 b9
 unfold ZU.F
 rw [h]
 rfl
def ZU.g : List AV → Option AV
 | [x0, x1] => (i1 x0).bind fun c0 => (dC x1).bind fun c1 => some (.bool (ZU.F c0 c1.f0 c1.f1 c1.f2 c1.f3 c1.f4 c1.f5 c1.f6 c1.f7 c1.f8 c1.f9))
 | _ => none
theorem ZU.walk (a0 b0 b1 b2 b3 b4 b5 b6 b7 b8 : Int) (b9 : Bool) : Walk 100 [(38, ZR.g), (68, Zy.g), (73, ZS.g), (102, ZY.g)] 7 900 [.int a0, .agg [.int b0, .int b1, .int b2, .int b3, .int b4, .int b5, .int b6, .int b7, .int b8, .bool b9]] ((.bool (ZU.F a0 b0 b1 b2 b3 b4 b5 b6 b7 b8 b9) : AV).v R0) := by
 refine w1 fun v O hv hO => ⟨_, _, Tryz.func100, rfl, by kernel_rfl, Nat.le_of_ble_eq_true rfl, ?_⟩
 unfold ZR.g
 generalize hf0 : ZR.F = f0
 unfold Zy.g
 generalize hf1 : Zy.F = f1
 unfold ZS.g
 generalize hf2 : ZS.F = f2
 unfold ZY.g
 generalize hf3 : ZY.F = f3
 (try cbv)
 repeat' (apply And.intro <;> (try intro h) <;> (try cbv))
 all_goals (subst hv hO; subst hf0; subst hf1; subst hf2; subst hf3; (try dsimp only [std] at *); (try simp only [nt_] at *)) <;> first | rfl | (simp only [ZU.F, ZU.f, AV.v, AV.vs, ZR.tot, Zy.tot, ZS.tot, ZY.tot, ZU.j2, ZU.j1, ZU.j0, nv_, reduceIte, *]; done) | (simp_all (maxSteps := 1000000) [std, ZU.F, ZU.f, AV.v, AV.vs, ZR.tot, Zy.tot, ZS.tot, ZY.tot, ZU.j2, ZU.j1, ZU.j0] <;> (repeat' split) <;> first | rfl | omega | (simp_all; done) | (simp_all; omega))
theorem ZU.fn : Fn 100 ZU.g := by
 refine ⟨⟨_, Tryz.func100, rfl, rfl⟩, fun R l v hg w => ?_⟩
 unfold ZU.g at hg
 split at hg
 ·rename_i x0 x1
  obtain ⟨c0, e0, hg⟩ := Option.bind_eq_some_iff.1 hg
  obtain ⟨c1, e1, hg⟩ := Option.bind_eq_some_iff.1 hg
  injection hg with hg
  subst hg
  have := (ZU.walk c0 c1.f0 c1.f1 c1.f2 c1.f3 c1.f4 c1.f5 c1.f6 c1.f7 c1.f8 c1.f9).calls (all_cons ZR.fn (all_cons Zy.fn (all_cons ZS.fn (all_cons ZY.fn ZX)))) w
  simpa only [AV.vs, AV.v, clA, i1_v R e0, dC_v R e1] using this
 ·cases hg
def Z2.f (a0 b0 b1 b2 b3 b4 b5 b6 b7 b8 : Int) (b9 : Bool) : Option (TA) := (ZU.f a0 b0 b1 b2 b3 b4 b5 b6 b7 b8 b9).bind fun c2 => (if c2 = true then ((Zac.f b5).bind fun a9 => (if b3 = 0 then ((ZQ.f b4).bind fun a1 => (some (a1.1, a1.2.1, a1.2.2.1, a1.2.2.2.1, a1.2.2.2.2))) else (if b3 = 1 then ((ZQ.f (wrap64 (2 + (wrap64 (2 * a9))))).bind fun a2 => (some (a2.1, a2.2.1, a2.2.2.1, a2.2.2.2.1, a2.2.2.2.2))) else (if b3 = 2 then ((ZQ.f (wrap64 (1 + (wrap64 (2 * a9))))).bind fun a3 => (some (a3.1, a3.2.1, a3.2.2.1, a3.2.2.2.1, a3.2.2.2.2))) else (if b3 = 3 then ((ZW.f b4 b5 (wrap64 ((wrap64 (Int.tdiv b6 2)) * 2))).bind fun a4 => (some (a4.1, a4.2.1, a4.2.2.1, a4.2.2.2.1, a4.2.2.2.2))) else (if b3 = 4 then ((ZP.f (wrap64 (1 + (wrap64 (2 * b2)))) b1).bind fun a5 => (some (a5.1, a5.2.1, a5.2.2.1, a5.2.2.2.1, a5.2.2.2.2))) else (if b3 = 5 then ((ZP.f (wrap64 (2 + (wrap64 (2 * b2)))) b5).bind fun a6 => (some (a6.1, a6.2.1, a6.2.2.1, a6.2.2.2.1, a6.2.2.2.2))) else (if b3 = 6 then ((ZW.f b4 b5 (wrap64 (2 * (wrap64 (b2 + 1))))).bind fun a7 => (some (a7.1, a7.2.1, a7.2.2.1, a7.2.2.2.1, a7.2.2.2.2))) else ((ZW.f (wrap64 (2 + (wrap64 (2 * a9)))) b6 (wrap64 ((wrap64 ((wrap64 (Int.tdiv b6 2)) * 2)) + 1))).bind fun a8 => (some (a8.1, a8.2.1, a8.2.2.1, a8.2.2.2.1, a8.2.2.2.2))))))))))) else (some (0, 0, 0, 0, false)))
def Z2.F (a0 b0 b1 b2 b3 b4 b5 b6 b7 b8 : Int) (b9 : Bool) : TA := (Z2.f a0 b0 b1 b2 b3 b4 b5 b6 b7 b8 b9).getD (0, 0, 0, 0, false)
theorem Z2.f.isS (a0 b0 b1 b2 b3 b4 b5 b6 b7 b8 : Int) (b9 : Bool) : ∃ r, Z2.f a0 b0 b1 b2 b3 b4 b5 b6 b7 b8 b9 = some r := by
 unfold Z2.f
 (try simp only [ZQ.tot, ZP.tot, ZW.tot, ZU.tot, Zac.tot, Option.bind_some])
 repeat' (first | exact ⟨_, rfl⟩ | (exfalso; omega) | split)
theorem Z2.tot (a0 b0 b1 b2 b3 b4 b5 b6 b7 b8 : Int) (b9 : Bool) : Z2.f a0 b0 b1 b2 b3 b4 b5 b6 b7 b8 b9 = some (Z2.F a0 b0 b1 b2 b3 b4 b5 b6 b7 b8 b9) := by
 obtain ⟨r, h⟩ := Z2.f.isS a0 b0 b1 b2 b3 b4 b5 b6 b7 b8 b9
 unfold Z2.F
 rw [h]
 rfl
def Z2.g : List AV → Option AV
 | [x0, x1] => (i1 x0).bind fun c0 => (dC x1).bind fun c1 => some (.tup [.agg [.int (Z2.F c0 c1.f0 c1.f1 c1.f2 c1.f3 c1.f4 c1.f5 c1.f6 c1.f7 c1.f8 c1.f9).1, .int (Z2.F c0 c1.f0 c1.f1 c1.f2 c1.f3 c1.f4 c1.f5 c1.f6 c1.f7 c1.f8 c1.f9).2.1, .int (Z2.F c0 c1.f0 c1.f1 c1.f2 c1.f3 c1.f4 c1.f5 c1.f6 c1.f7 c1.f8 c1.f9).2.2.1, .int (Z2.F c0 c1.f0 c1.f1 c1.f2 c1.f3 c1.f4 c1.f5 c1.f6 c1.f7 c1.f8 c1.f9).2.2.2.1], .bool (Z2.F c0 c1.f0 c1.f1 c1.f2 c1.f3 c1.f4 c1.f5 c1.f6 c1.f7 c1.f8 c1.f9).2.2.2.2])
 | _ => none
theorem Z2.walk (a0 b0 b1 b2 b3 b4 b5 b6 b7 b8 : Int) (b9 : Bool) : Walk 72 [(91, ZQ.g), (92, ZP.g), (95, ZW.g), (100, ZU.g), (101, Zac.g)] 7 900 [.int a0, .agg [.int b0, .int b1, .int b2, .int b3, .int b4, .int b5, .int b6, .int b7, .int b8, .bool b9]] ((.tup [.agg [.int (Z2.F a0 b0 b1 b2 b3 b4 b5 b6 b7 b8 b9).1, .int (Z2.F a0 b0 b1 b2 b3 b4 b5 b6 b7 b8 b9).2.1, .int (Z2.F a0 b0 b1 b2 b3 b4 b5 b6 b7 b8 b9).2.2.1, .int (Z2.F a0 b0 b1 b2 b3 b4 b5 b6 b7 b8 b9).2.2.2.1], .bool (Z2.F a0 b0 b1 b2 b3 b4 b5 b6 b7 b8 b9).2.2.2.2] : AV).v R0) := by
 refine w1 fun v O hv hO => ⟨_, _, Tryz.func72, rfl, by kernel_rfl, Nat.le_of_ble_eq_true rfl, ?_⟩
 unfold ZQ.g
 generalize hf0 : ZQ.F = f0
 unfold ZP.g
 generalize hf1 : ZP.F = f1
 unfold ZW.g
 generalize hf2 : ZW.F = f2
 unfold ZU.g
 generalize hf3 : ZU.F = f3
 unfold Zac.g
 generalize hf4 : Zac.F = f4
 (try cbv)
 repeat' (apply And.intro <;> (try intro h) <;> (try cbv))
 all_goals (subst hv hO; subst hf0; subst hf1; subst hf2; subst hf3; subst hf4; (try dsimp only [std] at *); (try simp only [nt_] at *)) <;> first | rfl | (simp only [Z2.F, Z2.f, AV.v, AV.vs, ZQ.tot, ZP.tot, ZW.tot, ZU.tot, Zac.tot, nv_, reduceIte, *]; done) | (simp_all (maxSteps := 1000000) [std, Z2.F, Z2.f, AV.v, AV.vs, ZQ.tot, ZP.tot, ZW.tot, ZU.tot, Zac.tot] <;> (repeat' split) <;> first | rfl | omega | (simp_all; done) | (simp_all; omega))
theorem Z2.fn : Fn 72 Z2.g := by
 refine ⟨⟨_, Tryz.func72, rfl, rfl⟩, fun R l v hg w => ?_⟩
 unfold Z2.g at hg
 split at hg
 ·rename_i x0 x1
  obtain ⟨c0, e0, hg⟩ := Option.bind_eq_some_iff.1 hg
  obtain ⟨c1, e1, hg⟩ := Option.bind_eq_some_iff.1 hg
  injection hg with hg
  subst hg
  have := (Z2.walk c0 c1.f0 c1.f1 c1.f2 c1.f3 c1.f4 c1.f5 c1.f6 c1.f7 c1.f8 c1.f9).calls (all_cons ZQ.fn (all_cons ZP.fn (all_cons ZW.fn (all_cons ZU.fn (all_cons Zac.fn ZX))))) w
  simpa only [AV.vs, AV.v, clA, i1_v R e0, dC_v R e1] using this
 ·cases hg
def Zv.j0 (x0 : Int) (x5 : Bool) (a3 a5 a6 c4 a7 a4 a8 a9 c2 : Int) (c3 : Bool) : Option (TC) := if x5 = true then ((Zw.f a3 a5 a6 c4 a7 a4 a8 a9 c2 c3).bind fun a1 => (some (a1.1, a1.2.1, a1.2.2.1, a1.2.2.2.1, a1.2.2.2.2.1, a1.2.2.2.2.2.1, a1.2.2.2.2.2.2.1, a1.2.2.2.2.2.2.2.1, a1.2.2.2.2.2.2.2.2.1, a1.2.2.2.2.2.2.2.2.2))) else ((ZY.f x0 a4).bind fun c5 => (if c5 = true then (some (a3, a5, a6, 1, a7, a4, a8, a9, c2, c3)) else (if a3 = 1 then (some (a3, a5, a6, 4, a7, a4, a8, a9, c2, c3)) else ((ZO.f a3 a5 a6 c4 a7 a4 a8 a9 c2 c3 4).bind fun a2 => (some (a2.1, a2.2.1, a2.2.2.1, a2.2.2.2.1, a2.2.2.2.2.1, a2.2.2.2.2.2.1, a2.2.2.2.2.2.2.1, a2.2.2.2.2.2.2.2.1, a2.2.2.2.2.2.2.2.2.1, a2.2.2.2.2.2.2.2.2.2))))))
def Zv.f (a0 b0 b1 b2 b3 b4 b5 b6 b7 b8 : Int) (b9 : Bool) : Option (TC) := if (Int.tmod b5 2) = 1 then (Zv.j0 a0 (b0 != 3) b0 b1 b2 b3 b4 b5 b6 b7 b8 b9) else (Zv.j0 a0 false b0 b1 b2 b3 b4 b5 b6 b7 b8 b9)
def Zv.F (a0 b0 b1 b2 b3 b4 b5 b6 b7 b8 : Int) (b9 : Bool) : TC := (Zv.f a0 b0 b1 b2 b3 b4 b5 b6 b7 b8 b9).getD (0, 0, 0, 0, 0, 0, 0, 0, 0, false)
theorem Zv.j0.isS (x0 : Int) (x5 : Bool) (a3 a5 a6 c4 a7 a4 a8 a9 c2 : Int) (c3 : Bool) : ∃ r, Zv.j0 x0 x5 a3 a5 a6 c4 a7 a4 a8 a9 c2 c3 = some r := by
 unfold Zv.j0
 (try simp only [ZY.tot, Zw.tot, ZO.tot, Option.bind_some])
 repeat' (first | exact ⟨_, rfl⟩ | (exfalso; omega) | split)
theorem Zv.f.isS (a0 b0 b1 b2 b3 b4 b5 b6 b7 b8 : Int) (b9 : Bool) : ∃ r, Zv.f a0 b0 b1 b2 b3 b4 b5 b6 b7 b8 b9 = some r := by
 unfold Zv.f
 (try simp only [ZY.tot, Zw.tot, ZO.tot, Option.bind_some])
 repeat' (first | exact ⟨_, rfl⟩ | exact Zv.j0.isS .. | (exfalso; omega) | split)
theorem Zv.tot (a0 b0 b1 b2 b3 b4 b5 b6 b7 b8 : Int) (b9 : Bool) : Zv.f a0 b0 b1 b2 b3 b4 b5 b6 b7 b8 b9 = some (Zv.F a0 b0 b1 b2 b3 b4 b5 b6 b7 b8 b9) := by
 obtain ⟨r, h⟩ := Zv.f.isS a0 b0 b1 b2 b3 b4 b5 b6 b7 b8 b9
 unfold Zv.F
 rw [h]
 rfl
def Zv.g : List AV → Option AV
 | [x0, x1] => (i1 x0).bind fun c0 => (dC x1).bind fun c1 => some (.agg [.int (Zv.F c0 c1.f0 c1.f1 c1.f2 c1.f3 c1.f4 c1.f5 c1.f6 c1.f7 c1.f8 c1.f9).1, .int (Zv.F c0 c1.f0 c1.f1 c1.f2 c1.f3 c1.f4 c1.f5 c1.f6 c1.f7 c1.f8 c1.f9).2.1, .int (Zv.F c0 c1.f0 c1.f1 c1.f2 c1.f3 c1.f4 c1.f5 c1.f6 c1.f7 c1.f8 c1.f9).2.2.1, .int (Zv.F c0 c1.f0 c1.f1 c1.f2 c1.f3 c1.f4 c1.f5 c1.f6 c1.f7 c1.f8 c1.f9).2.2.2.1, .int (Zv.F c0 c1.f0 c1.f1 c1.f2 c1.f3 c1.f4 c1.f5 c1.f6 c1.f7 c1.f8 c1.f9).2.2.2.2.1, .int (Zv.F c0 c1.f0 c1.f1 c1.f2 c1.f3 c1.f4 c1.f5 c1.f6 c1.f7 c1.f8 c1.f9).2.2.2.2.2.1, .int (Zv.F c0 c1.f0 c1.f1 c1.f2 c1.f3 c1.f4 c1.f5 c1.f6 c1.f7 c1.f8 c1.f9).2.2.2.2.2.2.1, .int (Zv.F c0 c1.f0 c1.f1 c1.f2 c1.f3 c1.f4 c1.f5 c1.f6 c1.f7 c1.f8 c1.f9).2.2.2.2.2.2.2.1, .int (Zv.F c0 c1.f0 c1.f1 c1.f2 c1.f3 c1.f4 c1.f5 c1.f6 c1.f7 c1.f8 c1.f9).2.2.2.2.2.2.2.2.1, .bool (Zv.F c0 c1.f0 c1.f1 c1.f2 c1.f3 c1.f4 c1.f5 c1.f6 c1.f7 c1.f8 c1.f9).2.2.2.2.2.2.2.2.2])
 | _ => none
theorem Zv.walk (a0 b0 b1 b2 b3 b4 b5 b6 b7 b8 : Int) (b9 : Bool) : Walk 74 [(102, ZY.g), (76, Zw.g), (77, ZO.g)] 6 900 [.int a0, .agg [.int b0, .int b1, .int b2, .int b3, .int b4, .int b5, .int b6, .int b7, .int b8, .bool b9]] ((.agg [.int (Zv.F a0 b0 b1 b2 b3 b4 b5 b6 b7 b8 b9).1, .int (Zv.F a0 b0 b1 b2 b3 b4 b5 b6 b7 b8 b9).2.1, .int (Zv.F a0 b0 b1 b2 b3 b4 b5 b6 b7 b8 b9).2.2.1, .int (Zv.F a0 b0 b1 b2 b3 b4 b5 b6 b7 b8 b9).2.2.2.1, .int (Zv.F a0 b0 b1 b2 b3 b4 b5 b6 b7 b8 b9).2.2.2.2.1, .int (Zv.F a0 b0 b1 b2 b3 b4 b5 b6 b7 b8 b9).2.2.2.2.2.1, .int (Zv.F a0 b0 b1 b2 b3 b4 b5 b6 b7 b8 b9).2.2.2.2.2.2.1, .int (Zv.F a0 b0 b1 b2 b3 b4 b5 b6 b7 b8 b9).2.2.2.2.2.2.2.1, .int (Zv.F a0 b0 b1 b2 b3 b4 b5 b6 b7 b8 b9).2.2.2.2.2.2.2.2.1, .bool (Zv.F a0 b0 b1 b2 b3 b4 b5 b6 b7 b8 b9).2.2.2.2.2.2.2.2.2] : AV).v R0) := by
 refine w1 fun v O hv hO => ⟨_, _, Tryz.func74, rfl, by kernel_rfl, Nat.le_of_ble_eq_true rfl, ?_⟩
 unfold ZY.g
 generalize hf0 : ZY.F = f0
 unfold Zw.g
 generalize hf1 : Zw.F = f1
 unfold ZO.g
 generalize hf2 : ZO.F = f2
 (try cbv)
 repeat' (apply And.intro <;> (try intro h) <;> (try cbv))
 all_goals (subst hv hO; subst hf0; subst hf1; subst hf2; (try dsimp only [std] at *); (try simp only [nt_] at *)) <;> first | rfl | (simp only [Zv.F, Zv.f, AV.v, AV.vs, ZY.tot, Zw.tot, ZO.tot, Zv.j0, nv_, reduceIte, *]; done) | (simp_all (maxSteps := 1000000) [std, Zv.F, Zv.f, AV.v, AV.vs, ZY.tot, Zw.tot, ZO.tot, Zv.j0] <;> (repeat' split) <;> first | rfl | omega | (simp_all; done) | (simp_all; omega))
theorem Zv.fn : Fn 74 Zv.g := by
 refine ⟨⟨_, Tryz.func74, rfl, rfl⟩, fun R l v hg w => ?_⟩
 unfold Zv.g at hg
 split at hg
 ·rename_i x0 x1
  obtain ⟨c0, e0, hg⟩ := Option.bind_eq_some_iff.1 hg
  obtain ⟨c1, e1, hg⟩ := Option.bind_eq_some_iff.1 hg
  injection hg with hg
  subst hg
  have := (Zv.walk c0 c1.f0 c1.f1 c1.f2 c1.f3 c1.f4 c1.f5 c1.f6 c1.f7 c1.f8 c1.f9).calls (all_cons ZY.fn (all_cons Zw.fn (all_cons ZO.fn ZX))) w
  simpa only [AV.vs, AV.v, clA, i1_v R e0, dC_v R e1] using this
 ·cases hg
def Zz.j1 (x42 : Bool) (a0 a1 a3 a9 a4 a5 a6 a7 a2 : Int) (a8 : Bool) : Option (TC) := if x42 = true then (some (a0, a1, a3, 4, a4, a5, a6, a7, a2, a8)) else (if a0 = 2 then (if a2 = a1 then (some (a0, a1, a3, 7, a4, a5, a6, a7, a2, a8)) else ((ZO.f a0 a1 a3 a9 a4 a5 a6 a7 a2 a8 4).bind fun c1 => (some (c1.1, c1.2.1, c1.2.2.1, c1.2.2.2.1, c1.2.2.2.2.1, c1.2.2.2.2.2.1, c1.2.2.2.2.2.2.1, c1.2.2.2.2.2.2.2.1, c1.2.2.2.2.2.2.2.2.1, c1.2.2.2.2.2.2.2.2.2)))) else ((ZO.f a0 a1 a3 a9 a4 a5 a6 a7 a2 a8 4).bind fun c2 => (some (c2.1, c2.2.1, c2.2.2.1, c2.2.2.2.1, c2.2.2.2.2.1, c2.2.2.2.2.2.1, c2.2.2.2.2.2.2.1, c2.2.2.2.2.2.2.2.1, c2.2.2.2.2.2.2.2.2.1, c2.2.2.2.2.2.2.2.2.2))))
def Zz.j0 (x17 : Bool) (a0 a1 a3 a9 a4 a5 a6 a7 a2 : Int) (a8 : Bool) : Option (TC) := if x17 = true then ((ZO.f a0 a1 a3 a9 a4 a5 a6 a7 a2 a8 1).bind fun c3 => (some (c3.1, c3.2.1, c3.2.2.1, c3.2.2.2.1, c3.2.2.2.2.1, c3.2.2.2.2.2.1, c3.2.2.2.2.2.2.1, c3.2.2.2.2.2.2.2.1, c3.2.2.2.2.2.2.2.2.1, c3.2.2.2.2.2.2.2.2.2))) else (if a0 = 3 then ((ZO.f a0 a1 a3 a9 a4 a5 a6 a7 a2 a8 4).bind fun c4 => (some (c4.1, c4.2.1, c4.2.2.1, c4.2.2.2.1, c4.2.2.2.2.1, c4.2.2.2.2.2.1, c4.2.2.2.2.2.2.1, c4.2.2.2.2.2.2.2.1, c4.2.2.2.2.2.2.2.2.1, c4.2.2.2.2.2.2.2.2.2))) else (if a0 = 1 then (Zz.j1 (decide (a2 > a1)) a0 a1 a3 a9 a4 a5 a6 a7 a2 a8) else (Zz.j1 false a0 a1 a3 a9 a4 a5 a6 a7 a2 a8)))
def Zz.f (b0 b1 b2 b3 b4 b5 b6 b7 b8 : Int) (b9 : Bool) : Option (TC) := if b8 < b1 then ((Zac.f b5).bind fun c5 => (some (b0, b1, b2, 0, wrap64 (2 + (wrap64 (2 * c5))), b5, b6, b7, b8, b9))) else (if b0 = 3 then (if b8 = b1 then (Zz.j0 ((Int.tmod b6 2) == 0) b0 b1 b2 b3 b4 b5 b6 b7 b8 b9) else (Zz.j0 false b0 b1 b2 b3 b4 b5 b6 b7 b8 b9)) else (Zz.j0 false b0 b1 b2 b3 b4 b5 b6 b7 b8 b9))
def Zz.F (b0 b1 b2 b3 b4 b5 b6 b7 b8 : Int) (b9 : Bool) : TC := (Zz.f b0 b1 b2 b3 b4 b5 b6 b7 b8 b9).getD (0, 0, 0, 0, 0, 0, 0, 0, 0, false)
theorem Zz.j1.isS (x42 : Bool) (a0 a1 a3 a9 a4 a5 a6 a7 a2 : Int) (a8 : Bool) : ∃ r, Zz.j1 x42 a0 a1 a3 a9 a4 a5 a6 a7 a2 a8 = some r := by
 unfold Zz.j1
 (try simp only [Zac.tot, ZO.tot, Option.bind_some])
 repeat' (first | exact ⟨_, rfl⟩ | (exfalso; omega) | split)
theorem Zz.j0.isS (x17 : Bool) (a0 a1 a3 a9 a4 a5 a6 a7 a2 : Int) (a8 : Bool) : ∃ r, Zz.j0 x17 a0 a1 a3 a9 a4 a5 a6 a7 a2 a8 = some r := by
 unfold Zz.j0
 (try simp only [Zac.tot, ZO.tot, Option.bind_some])
 repeat' (first | exact ⟨_, rfl⟩ | exact Zz.j1.isS .. | (exfalso; omega) | split)
theorem Zz.f.isS (b0 b1 b2 b3 b4 b5 b6 b7 b8 : Int) (b9 : Bool) : ∃ r, Zz.f b0 b1 b2 b3 b4 b5 b6 b7 b8 b9 = some r := by
 unfold Zz.f
 (try simp only [Zac.tot, ZO.tot, Option.bind_some])
 repeat' (first | exact ⟨_, rfl⟩ | exact Zz.j1.isS .. | exact Zz.j0.isS .. | (exfalso; omega) | split)
theorem Zz.tot (b0 b1 b2 b3 b4 b5 b6 b7 b8 : Int) (b9 : Bool) : Zz.f b0 b1 b2 b3 b4 b5 b6 b7 b8 b9 = some (Zz.F b0 b1 b2 b3 b4 b5 b6 b7 b8 b9) := by
 obtain ⟨r, h⟩ := Zz.f.isS b0 b1 b2 b3 b4 b5 b6 b7 b8 b9
 unfold Zz.F
 rw [h]
 rfl
def Zz.g : List AV → Option AV
 | [x0] => (dC x0).bind fun c0 => some (.agg [.int (Zz.F c0.f0 c0.f1 c0.f2 c0.f3 c0.f4 c0.f5 c0.f6 c0.f7 c0.f8 c0.f9).1, .int (Zz.F c0.f0 c0.f1 c0.f2 c0.f3 c0.f4 c0.f5 c0.f6 c0.f7 c0.f8 c0.f9).2.1, .int (Zz.F c0.f0 c0.f1 c0.f2 c0.f3 c0.f4 c0.f5 c0.f6 c0.f7 c0.f8 c0.f9).2.2.1, .int (Zz.F c0.f0 c0.f1 c0.f2 c0.f3 c0.f4 c0.f5 c0.f6 c0.f7 c0.f8 c0.f9).2.2.2.1, .int (Zz.F c0.f0 c0.f1 c0.f2 c0.f3 c0.f4 c0.f5 c0.f6 c0.f7 c0.f8 c0.f9).2.2.2.2.1, .int (Zz.F c0.f0 c0.f1 c0.f2 c0.f3 c0.f4 c0.f5 c0.f6 c0.f7 c0.f8 c0.f9).2.2.2.2.2.1, .int (Zz.F c0.f0 c0.f1 c0.f2 c0.f3 c0.f4 c0.f5 c0.f6 c0.f7 c0.f8 c0.f9).2.2.2.2.2.2.1, .int (Zz.F c0.f0 c0.f1 c0.f2 c0.f3 c0.f4 c0.f5 c0.f6 c0.f7 c0.f8 c0.f9).2.2.2.2.2.2.2.1, .int (Zz.F c0.f0 c0.f1 c0.f2 c0.f3 c0.f4 c0.f5 c0.f6 c0.f7 c0.f8 c0.f9).2.2.2.2.2.2.2.2.1, .bool (Zz.F c0.f0 c0.f1 c0.f2 c0.f3 c0.f4 c0.f5 c0.f6 c0.f7 c0.f8 c0.f9).2.2.2.2.2.2.2.2.2])
 | _ => none
theorem Zz.walk (b0 b1 b2 b3 b4 b5 b6 b7 b8 : Int) (b9 : Bool) : Walk 75 [(101, Zac.g), (77, ZO.g)] 7 900 [.agg [.int b0, .int b1, .int b2, .int b3, .int b4, .int b5, .int b6, .int b7, .int b8, .bool b9]] ((.agg [.int (Zz.F b0 b1 b2 b3 b4 b5 b6 b7 b8 b9).1, .int (Zz.F b0 b1 b2 b3 b4 b5 b6 b7 b8 b9).2.1, .int (Zz.F b0 b1 b2 b3 b4 b5 b6 b7 b8 b9).2.2.1, .int (Zz.F b0 b1 b2 b3 b4 b5 b6 b7 b8 b9).2.2.2.1, .int (Zz.F b0 b1 b2 b3 b4 b5 b6 b7 b8 b9).2.2.2.2.1, .int (Zz.F b0 b1 b2 b3 b4 b5 b6 b7 b8 b9).2.2.2.2.2.1, .int (Zz.F b0 b1 b2 b3 b4 b5 b6 b7 b8 b9).2.2.2.2.2.2.1, .int (Zz.F b0 b1 b2 b3 b4 b5 b6 b7 b8 b9).2.2.2.2.2.2.2.1, .int (Zz.F b0 b1 b2 b3 b4 b5 b6 b7 b8 b9).2.2.2.2.2.2.2.2.1, .bool (Zz.F b0 b1 b2 b3 b4 b5 b6 b7 b8 b9).2.2.2.2.2.2.2.2.2] : AV).v R0) := by
 refine w1 fun v O hv hO => ⟨_, _, Tryz.func75, rfl, by kernel_rfl, Nat.le_of_ble_eq_true rfl, ?_⟩
 unfold Zac.g
 generalize hf0 : Zac.F = f0
 unfold ZO.g
 generalize hf1 : ZO.F = f1
 (try cbv)
 repeat' (apply And.intro <;> (try intro h) <;> (try cbv))
 all_goals (subst hv hO; subst hf0; subst hf1; (try dsimp only [std] at *); (try simp only [nt_] at *)) <;> first | rfl | (simp only [Zz.F, Zz.f, AV.v, AV.vs, Zac.tot, ZO.tot, Zz.j1, Zz.j0, nv_, reduceIte, *]; done) | (simp_all (maxSteps := 1000000) [std, Zz.F, Zz.f, AV.v, AV.vs, Zac.tot, ZO.tot, Zz.j1, Zz.j0] <;> (repeat' split) <;> first | rfl | omega | (simp_all; done) | (simp_all; omega))
theorem Zz.fn : Fn 75 Zz.g := by
 refine ⟨⟨_, Tryz.func75, rfl, rfl⟩, fun R l v hg w => ?_⟩
 unfold Zz.g at hg
 split at hg
 ·rename_i x0
  obtain ⟨c0, e0, hg⟩ := Option.bind_eq_some_iff.1 hg
  injection hg with hg
  subst hg
  have := (Zz.walk c0.f0 c0.f1 c0.f2 c0.f3 c0.f4 c0.f5 c0.f6 c0.f7 c0.f8 c0.f9).calls (all_cons Zac.fn (all_cons ZO.fn ZX)) w
  simpa only [AV.vs, AV.v, clA, dC_v R e0] using this
 ·cases hg
end Go.Proofs.YtgghglocfdcegaaGreat.Xec
