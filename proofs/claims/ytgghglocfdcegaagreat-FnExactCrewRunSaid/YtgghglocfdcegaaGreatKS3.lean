/- Part S3 of the proof of FnExactCrewStep and FnExactCrewRun (wip/xec, pack.py). No condition. -/
import Derived.Test.YtgghglocfdcegaaGreatKE
namespace Go.Proofs.YtgghglocfdcegaaGreat.Xec
open Go Go.RowKit Go.Proofs.YtgghglocfdcegaaGreat.PFnExactCrewRun Go.Proofs.YtgghglocfdcegaaGreatW.PrintWords
set_option linter.unusedVariables false
set_option linter.unusedSimpArgs false
set_option maxRecDepth 100000
set_option maxHeartbeats 16000000
def ZO.j2 (x0 : Int) (x75 : Bool) (a3 a6 a5 a1 a7 a2 a4 a8 a9 : Int) (c2 : Bool) : Option (Bool) := if x75 = true then (if a3 = 1 then ((ZP.f a5 0 (wrap64 (x0 - 1))).bind fun c3 => (if c3 = true then ((ZV.f x0 a2).bind fun c4 => (some c4)) else (some false))) else (some false)) else (if a1 = 7 then (if a3 = 2 then ((ZX.f x0 a2).bind fun c5 => (if c5 = true then ((ZV.f x0 a4).bind fun c6 => (some c6)) else (some false))) else (some false)) else (some false))
def ZO.j1 (x0 : Int) (x44 : Bool) (a3 a6 a5 a1 a7 a2 a4 a8 a9 : Int) (c2 : Bool) : Option (Bool) := if x44 = true then ((ZX.f x0 a2).bind fun c7 => (some c7)) else (if a3 = 3 then (some false) else (if a1 = 3 then ((ZX.f x0 a2).bind fun c8 => (if c8 = true then ((ZV.f x0 a4).bind fun c9 => (some c9)) else (some false))) else (if a1 ≥ 4 then (ZO.j2 x0 (decide (a1 ≤ 6)) a3 a6 a5 a1 a7 a2 a4 a8 a9 c2) else (ZO.j2 x0 false a3 a6 a5 a1 a7 a2 a4 a8 a9 c2))))
def ZO.j0 (x0 : Int) (x39 : Bool) (a3 a6 a5 a1 a7 a2 a4 a8 a9 : Int) (c2 : Bool) : Option (Bool) := if x39 = true then (some false) else (if a1 = 0 then (some true) else (if a1 = 1 then (ZO.j1 x0 true a3 a6 a5 a1 a7 a2 a4 a8 a9 c2) else (ZO.j1 x0 (a1 == 2) a3 a6 a5 a1 a7 a2 a4 a8 a9 c2)))
def ZO.f (a0 b0 b1 b2 b3 b4 b5 b6 b7 b8 : Int) (b9 : Bool) : Option (Bool) := if b9 = true then (ZO.j0 a0 true b0 b1 b2 b3 b4 b5 b6 b7 b8 b9) else ((Zx.f a0).bind fun d0 => (if d0 = true then (if b0 < 1 then (ZO.j0 a0 true b0 b1 b2 b3 b4 b5 b6 b7 b8 b9) else (if b0 > 3 then (ZO.j0 a0 true b0 b1 b2 b3 b4 b5 b6 b7 b8 b9) else (if b4 < 0 then (ZO.j0 a0 true b0 b1 b2 b3 b4 b5 b6 b7 b8 b9) else (if b4 > (wrap64 (2 * a0)) then (ZO.j0 a0 true b0 b1 b2 b3 b4 b5 b6 b7 b8 b9) else (ZO.j0 a0 ((Int.tmod b4 2) != 0) b0 b1 b2 b3 b4 b5 b6 b7 b8 b9))))) else (ZO.j0 a0 true b0 b1 b2 b3 b4 b5 b6 b7 b8 b9)))
def ZO.F (a0 b0 b1 b2 b3 b4 b5 b6 b7 b8 : Int) (b9 : Bool) : Bool := (ZO.f a0 b0 b1 b2 b3 b4 b5 b6 b7 b8 b9).getD (false)
theorem ZO.j2.isS (x0 : Int) (x75 : Bool) (a3 a6 a5 a1 a7 a2 a4 a8 a9 : Int) (c2 : Bool) : ∃ r, ZO.j2 x0 x75 a3 a6 a5 a1 a7 a2 a4 a8 a9 c2 = some r := by
 unfold ZO.j2
 (try simp only [Zx.tot, ZP.tot, ZV.tot, ZX.tot, Option.bind_some])
 repeat' (first | exact ⟨_, rfl⟩ | (exfalso; omega) | split)
theorem ZO.j1.isS (x0 : Int) (x44 : Bool) (a3 a6 a5 a1 a7 a2 a4 a8 a9 : Int) (c2 : Bool) : ∃ r, ZO.j1 x0 x44 a3 a6 a5 a1 a7 a2 a4 a8 a9 c2 = some r := by
 unfold ZO.j1
 (try simp only [Zx.tot, ZP.tot, ZV.tot, ZX.tot, Option.bind_some])
 repeat' (first | exact ⟨_, rfl⟩ | exact ZO.j2.isS .. | (exfalso; omega) | split)
theorem ZO.j0.isS (x0 : Int) (x39 : Bool) (a3 a6 a5 a1 a7 a2 a4 a8 a9 : Int) (c2 : Bool) : ∃ r, ZO.j0 x0 x39 a3 a6 a5 a1 a7 a2 a4 a8 a9 c2 = some r := by
 unfold ZO.j0
 (try simp only [Zx.tot, ZP.tot, ZV.tot, ZX.tot, Option.bind_some])
 repeat' (first | exact ⟨_, rfl⟩ | exact ZO.j2.isS .. | exact ZO.j1.isS .. | (exfalso; omega) | split)
theorem ZO.f.isS (a0 b0 b1 b2 b3 b4 b5 b6 b7 b8 : Int) (b9 : Bool) : ∃ r, ZO.f a0 b0 b1 b2 b3 b4 b5 b6 b7 b8 b9 = some r := by
 unfold ZO.f
 (try simp only [Zx.tot, ZP.tot, ZV.tot, ZX.tot, Option.bind_some])
 repeat' (first | exact ⟨_, rfl⟩ | exact ZO.j2.isS .. | exact ZO.j1.isS .. | exact ZO.j0.isS .. | (exfalso; omega) | split)
theorem ZO.tot (a0 b0 b1 b2 b3 b4 b5 b6 b7 b8 : Int) (b9 : Bool) : ZO.f a0 b0 b1 b2 b3 b4 b5 b6 b7 b8 b9 = some (ZO.F a0 b0 b1 b2 b3 b4 b5 b6 b7 b8 b9) := by
 obtain ⟨r, h⟩ := ZO.f.isS a0 b0 b1 b2 b3 b4 b5 b6 b7 b8 b9
 unfold ZO.F
 rw [h]
 rfl
def ZO.g : List AV → Option AV
 | [x0, x1] => (i1 x0).bind fun c0 => (dC x1).bind fun c1 => some (.bool (ZO.F c0 c1.f0 c1.f1 c1.f2 c1.f3 c1.f4 c1.f5 c1.f6 c1.f7 c1.f8 c1.f9))
 | _ => none
theorem ZO.walk (a0 b0 b1 b2 b3 b4 b5 b6 b7 b8 : Int) (b9 : Bool) : Walk 100 [(38, Zx.g), (68, ZP.g), (73, ZV.g), (102, ZX.g)] 7 900 [.int a0, .agg [.int b0, .int b1, .int b2, .int b3, .int b4, .int b5, .int b6, .int b7, .int b8, .bool b9]] ((.bool (ZO.F a0 b0 b1 b2 b3 b4 b5 b6 b7 b8 b9) : AV).v R0) := by
 refine w1 fun v O hv hO => ⟨_, _, Tryz.func100, rfl, by kernel_rfl, Nat.le_of_ble_eq_true rfl, ?_⟩
 unfold Zx.g
 generalize hf0 : Zx.F = f0
 unfold ZP.g
 generalize hf1 : ZP.F = f1
 unfold ZV.g
 generalize hf2 : ZV.F = f2
 unfold ZX.g
 generalize hf3 : ZX.F = f3
 (try cbv)
 repeat' (apply And.intro <;> (try intro h) <;> (try cbv))
 all_goals (subst hv hO; subst hf0; subst hf1; subst hf2; subst hf3; (try dsimp only [std] at *); (try simp only [nt_] at *); (try subst_vars)) <;> first | rfl | (simp only [ZO.F, ZO.f, AV.v, AV.vs, Zx.tot, ZP.tot, ZV.tot, ZX.tot, ZO.j2, ZO.j1, ZO.j0, nv_, reduceIte, bne_iff_ne, bne_self_eq_false, not_false_eq_true, not_true_eq_false, ne_eq, *]; done) | (simp_all (maxSteps := 1000000) [std, ZO.F, ZO.f, AV.v, AV.vs, Zx.tot, ZP.tot, ZV.tot, ZX.tot, ZO.j2, ZO.j1, ZO.j0] <;> (repeat' split) <;> first | rfl | omega | (simp_all; done) | (simp_all; omega))
theorem ZO.fn : Fn 100 ZO.g := by
 refine ⟨⟨_, Tryz.func100, rfl, rfl⟩, fun R l v hg w => ?_⟩
 unfold ZO.g at hg
 split at hg
 ·rename_i x0 x1
  obtain ⟨c0, e0, hg⟩ := Option.bind_eq_some_iff.1 hg
  obtain ⟨c1, e1, hg⟩ := Option.bind_eq_some_iff.1 hg
  injection hg with hg
  subst hg
  have := (ZO.walk c0 c1.f0 c1.f1 c1.f2 c1.f3 c1.f4 c1.f5 c1.f6 c1.f7 c1.f8 c1.f9).calls (all_cons Zx.fn (all_cons ZP.fn (all_cons ZV.fn (all_cons ZX.fn ZW)))) w
  simpa only [AV.vs, AV.v, clA, i1_v R e0, dC_v R e1] using this
 ·cases hg
def Zai.f (a0 b0 b1 b2 b3 b4 b5 b6 b7 b8 : Int) (b9 : Bool) : Option (TA) := (ZO.f a0 b0 b1 b2 b3 b4 b5 b6 b7 b8 b9).bind fun c2 => (if c2 = true then ((Z8.f b5).bind fun a9 => (if b3 = 0 then ((Zw.f b4).bind fun a1 => (some (a1.1, a1.2.1, a1.2.2.1, a1.2.2.2.1, a1.2.2.2.2))) else (if b3 = 1 then ((Zw.f (wrap64 (2 + (wrap64 (2 * a9))))).bind fun a2 => (some (a2.1, a2.2.1, a2.2.2.1, a2.2.2.2.1, a2.2.2.2.2))) else (if b3 = 2 then ((Zw.f (wrap64 (1 + (wrap64 (2 * a9))))).bind fun a3 => (some (a3.1, a3.2.1, a3.2.2.1, a3.2.2.2.1, a3.2.2.2.2))) else (if b3 = 3 then ((ZT.f b4 b5 (wrap64 ((wrap64 (Int.tdiv b6 2)) * 2))).bind fun a4 => (some (a4.1, a4.2.1, a4.2.2.1, a4.2.2.2.1, a4.2.2.2.2))) else (if b3 = 4 then ((Zu.f (wrap64 (1 + (wrap64 (2 * b2)))) b1).bind fun a5 => (some (a5.1, a5.2.1, a5.2.2.1, a5.2.2.2.1, a5.2.2.2.2))) else (if b3 = 5 then ((Zu.f (wrap64 (2 + (wrap64 (2 * b2)))) b5).bind fun a6 => (some (a6.1, a6.2.1, a6.2.2.1, a6.2.2.2.1, a6.2.2.2.2))) else (if b3 = 6 then ((ZT.f b4 b5 (wrap64 (2 * (wrap64 (b2 + 1))))).bind fun a7 => (some (a7.1, a7.2.1, a7.2.2.1, a7.2.2.2.1, a7.2.2.2.2))) else ((ZT.f (wrap64 (2 + (wrap64 (2 * a9)))) b6 (wrap64 ((wrap64 ((wrap64 (Int.tdiv b6 2)) * 2)) + 1))).bind fun a8 => (some (a8.1, a8.2.1, a8.2.2.1, a8.2.2.2.1, a8.2.2.2.2))))))))))) else (some (0, 0, 0, 0, false)))
def Zai.F (a0 b0 b1 b2 b3 b4 b5 b6 b7 b8 : Int) (b9 : Bool) : TA := (Zai.f a0 b0 b1 b2 b3 b4 b5 b6 b7 b8 b9).getD (0, 0, 0, 0, false)
theorem Zai.f.isS (a0 b0 b1 b2 b3 b4 b5 b6 b7 b8 : Int) (b9 : Bool) : ∃ r, Zai.f a0 b0 b1 b2 b3 b4 b5 b6 b7 b8 b9 = some r := by
 unfold Zai.f
 (try simp only [Zw.tot, Zu.tot, ZT.tot, ZO.tot, Z8.tot, Option.bind_some])
 repeat' (first | exact ⟨_, rfl⟩ | (exfalso; omega) | split)
theorem Zai.tot (a0 b0 b1 b2 b3 b4 b5 b6 b7 b8 : Int) (b9 : Bool) : Zai.f a0 b0 b1 b2 b3 b4 b5 b6 b7 b8 b9 = some (Zai.F a0 b0 b1 b2 b3 b4 b5 b6 b7 b8 b9) := by
 obtain ⟨r, h⟩ := Zai.f.isS a0 b0 b1 b2 b3 b4 b5 b6 b7 b8 b9
 unfold Zai.F
 rw [h]
 rfl
def Zai.g : List AV → Option AV
 | [x0, x1] => (i1 x0).bind fun c0 => (dC x1).bind fun c1 => some (.tup [.agg [.int (Zai.F c0 c1.f0 c1.f1 c1.f2 c1.f3 c1.f4 c1.f5 c1.f6 c1.f7 c1.f8 c1.f9).1, .int (Zai.F c0 c1.f0 c1.f1 c1.f2 c1.f3 c1.f4 c1.f5 c1.f6 c1.f7 c1.f8 c1.f9).2.1, .int (Zai.F c0 c1.f0 c1.f1 c1.f2 c1.f3 c1.f4 c1.f5 c1.f6 c1.f7 c1.f8 c1.f9).2.2.1, .int (Zai.F c0 c1.f0 c1.f1 c1.f2 c1.f3 c1.f4 c1.f5 c1.f6 c1.f7 c1.f8 c1.f9).2.2.2.1], .bool (Zai.F c0 c1.f0 c1.f1 c1.f2 c1.f3 c1.f4 c1.f5 c1.f6 c1.f7 c1.f8 c1.f9).2.2.2.2])
 | _ => none
theorem Zai.walk (a0 b0 b1 b2 b3 b4 b5 b6 b7 b8 : Int) (b9 : Bool) : Walk 72 [(91, Zw.g), (92, Zu.g), (95, ZT.g), (100, ZO.g), (101, Z8.g)] 7 900 [.int a0, .agg [.int b0, .int b1, .int b2, .int b3, .int b4, .int b5, .int b6, .int b7, .int b8, .bool b9]] ((.tup [.agg [.int (Zai.F a0 b0 b1 b2 b3 b4 b5 b6 b7 b8 b9).1, .int (Zai.F a0 b0 b1 b2 b3 b4 b5 b6 b7 b8 b9).2.1, .int (Zai.F a0 b0 b1 b2 b3 b4 b5 b6 b7 b8 b9).2.2.1, .int (Zai.F a0 b0 b1 b2 b3 b4 b5 b6 b7 b8 b9).2.2.2.1], .bool (Zai.F a0 b0 b1 b2 b3 b4 b5 b6 b7 b8 b9).2.2.2.2] : AV).v R0) := by
 refine w1 fun v O hv hO => ⟨_, _, Tryz.func72, rfl, by kernel_rfl, Nat.le_of_ble_eq_true rfl, ?_⟩
 unfold Zw.g
 generalize hf0 : Zw.F = f0
 unfold Zu.g
 generalize hf1 : Zu.F = f1
 unfold ZT.g
 generalize hf2 : ZT.F = f2
 unfold ZO.g
 generalize hf3 : ZO.F = f3
 unfold Z8.g
 generalize hf4 : Z8.F = f4
 (try cbv)
 repeat' (apply And.intro <;> (try intro h) <;> (try cbv))
 all_goals (subst hv hO; subst hf0; subst hf1; subst hf2; subst hf3; subst hf4; (try dsimp only [std] at *); (try simp only [nt_] at *)) <;> first | rfl | (simp only [Zai.F, Zai.f, AV.v, AV.vs, Zw.tot, Zu.tot, ZT.tot, ZO.tot, Z8.tot, nv_, reduceIte, *]; done) | (simp_all (maxSteps := 1000000) [std, Zai.F, Zai.f, AV.v, AV.vs, Zw.tot, Zu.tot, ZT.tot, ZO.tot, Z8.tot] <;> (repeat' split) <;> first | rfl | omega | (simp_all; done) | (simp_all; omega))
theorem Zai.fn : Fn 72 Zai.g := by
 refine ⟨⟨_, Tryz.func72, rfl, rfl⟩, fun R l v hg w => ?_⟩
 unfold Zai.g at hg
 split at hg
 ·rename_i x0 x1
  obtain ⟨c0, e0, hg⟩ := Option.bind_eq_some_iff.1 hg
  obtain ⟨c1, e1, hg⟩ := Option.bind_eq_some_iff.1 hg
  injection hg with hg
  subst hg
  have := (Zai.walk c0 c1.f0 c1.f1 c1.f2 c1.f3 c1.f4 c1.f5 c1.f6 c1.f7 c1.f8 c1.f9).calls (all_cons Zw.fn (all_cons Zu.fn (all_cons ZT.fn (all_cons ZO.fn (all_cons Z8.fn ZW))))) w
  simpa only [AV.vs, AV.v, clA, i1_v R e0, dC_v R e1] using this
 ·cases hg
def Zy.j0 (x0 : Int) (x5 : Bool) (a3 a5 a6 c4 a7 a4 a8 a9 c2 : Int) (c3 : Bool) : Option (TC) := if x5 = true then ((Zz.f a3 a5 a6 c4 a7 a4 a8 a9 c2 c3).bind fun a1 => (some (a1.1, a1.2.1, a1.2.2.1, a1.2.2.2.1, a1.2.2.2.2.1, a1.2.2.2.2.2.1, a1.2.2.2.2.2.2.1, a1.2.2.2.2.2.2.2.1, a1.2.2.2.2.2.2.2.2.1, a1.2.2.2.2.2.2.2.2.2))) else ((ZX.f x0 a4).bind fun c5 => (if c5 = true then (some (a3, a5, a6, 1, a7, a4, a8, a9, c2, c3)) else (if a3 = 1 then (some (a3, a5, a6, 4, a7, a4, a8, a9, c2, c3)) else ((ZS.f a3 a5 a6 c4 a7 a4 a8 a9 c2 c3 4).bind fun a2 => (some (a2.1, a2.2.1, a2.2.2.1, a2.2.2.2.1, a2.2.2.2.2.1, a2.2.2.2.2.2.1, a2.2.2.2.2.2.2.1, a2.2.2.2.2.2.2.2.1, a2.2.2.2.2.2.2.2.2.1, a2.2.2.2.2.2.2.2.2.2))))))
def Zy.f (a0 b0 b1 b2 b3 b4 b5 b6 b7 b8 : Int) (b9 : Bool) : Option (TC) := if (Int.tmod b5 2) = 1 then (Zy.j0 a0 (b0 != 3) b0 b1 b2 b3 b4 b5 b6 b7 b8 b9) else (Zy.j0 a0 false b0 b1 b2 b3 b4 b5 b6 b7 b8 b9)
def Zy.F (a0 b0 b1 b2 b3 b4 b5 b6 b7 b8 : Int) (b9 : Bool) : TC := (Zy.f a0 b0 b1 b2 b3 b4 b5 b6 b7 b8 b9).getD (0, 0, 0, 0, 0, 0, 0, 0, 0, false)
theorem Zy.j0.isS (x0 : Int) (x5 : Bool) (a3 a5 a6 c4 a7 a4 a8 a9 c2 : Int) (c3 : Bool) : ∃ r, Zy.j0 x0 x5 a3 a5 a6 c4 a7 a4 a8 a9 c2 c3 = some r := by
 unfold Zy.j0
 (try simp only [ZX.tot, Zz.tot, ZS.tot, Option.bind_some])
 repeat' (first | exact ⟨_, rfl⟩ | (exfalso; omega) | split)
theorem Zy.f.isS (a0 b0 b1 b2 b3 b4 b5 b6 b7 b8 : Int) (b9 : Bool) : ∃ r, Zy.f a0 b0 b1 b2 b3 b4 b5 b6 b7 b8 b9 = some r := by
 unfold Zy.f
 (try simp only [ZX.tot, Zz.tot, ZS.tot, Option.bind_some])
 repeat' (first | exact ⟨_, rfl⟩ | exact Zy.j0.isS .. | (exfalso; omega) | split)
theorem Zy.tot (a0 b0 b1 b2 b3 b4 b5 b6 b7 b8 : Int) (b9 : Bool) : Zy.f a0 b0 b1 b2 b3 b4 b5 b6 b7 b8 b9 = some (Zy.F a0 b0 b1 b2 b3 b4 b5 b6 b7 b8 b9) := by
 obtain ⟨r, h⟩ := Zy.f.isS a0 b0 b1 b2 b3 b4 b5 b6 b7 b8 b9
 unfold Zy.F
 rw [h]
 rfl
def Zy.g : List AV → Option AV
 | [x0, x1] => (i1 x0).bind fun c0 => (dC x1).bind fun c1 => some (.agg [.int (Zy.F c0 c1.f0 c1.f1 c1.f2 c1.f3 c1.f4 c1.f5 c1.f6 c1.f7 c1.f8 c1.f9).1, .int (Zy.F c0 c1.f0 c1.f1 c1.f2 c1.f3 c1.f4 c1.f5 c1.f6 c1.f7 c1.f8 c1.f9).2.1, .int (Zy.F c0 c1.f0 c1.f1 c1.f2 c1.f3 c1.f4 c1.f5 c1.f6 c1.f7 c1.f8 c1.f9).2.2.1, .int (Zy.F c0 c1.f0 c1.f1 c1.f2 c1.f3 c1.f4 c1.f5 c1.f6 c1.f7 c1.f8 c1.f9).2.2.2.1, .int (Zy.F c0 c1.f0 c1.f1 c1.f2 c1.f3 c1.f4 c1.f5 c1.f6 c1.f7 c1.f8 c1.f9).2.2.2.2.1, .int (Zy.F c0 c1.f0 c1.f1 c1.f2 c1.f3 c1.f4 c1.f5 c1.f6 c1.f7 c1.f8 c1.f9).2.2.2.2.2.1, .int (Zy.F c0 c1.f0 c1.f1 c1.f2 c1.f3 c1.f4 c1.f5 c1.f6 c1.f7 c1.f8 c1.f9).2.2.2.2.2.2.1, .int (Zy.F c0 c1.f0 c1.f1 c1.f2 c1.f3 c1.f4 c1.f5 c1.f6 c1.f7 c1.f8 c1.f9).2.2.2.2.2.2.2.1, .int (Zy.F c0 c1.f0 c1.f1 c1.f2 c1.f3 c1.f4 c1.f5 c1.f6 c1.f7 c1.f8 c1.f9).2.2.2.2.2.2.2.2.1, .bool (Zy.F c0 c1.f0 c1.f1 c1.f2 c1.f3 c1.f4 c1.f5 c1.f6 c1.f7 c1.f8 c1.f9).2.2.2.2.2.2.2.2.2])
 | _ => none
theorem Zy.walk (a0 b0 b1 b2 b3 b4 b5 b6 b7 b8 : Int) (b9 : Bool) : Walk 74 [(102, ZX.g), (76, Zz.g), (77, ZS.g)] 6 900 [.int a0, .agg [.int b0, .int b1, .int b2, .int b3, .int b4, .int b5, .int b6, .int b7, .int b8, .bool b9]] ((.agg [.int (Zy.F a0 b0 b1 b2 b3 b4 b5 b6 b7 b8 b9).1, .int (Zy.F a0 b0 b1 b2 b3 b4 b5 b6 b7 b8 b9).2.1, .int (Zy.F a0 b0 b1 b2 b3 b4 b5 b6 b7 b8 b9).2.2.1, .int (Zy.F a0 b0 b1 b2 b3 b4 b5 b6 b7 b8 b9).2.2.2.1, .int (Zy.F a0 b0 b1 b2 b3 b4 b5 b6 b7 b8 b9).2.2.2.2.1, .int (Zy.F a0 b0 b1 b2 b3 b4 b5 b6 b7 b8 b9).2.2.2.2.2.1, .int (Zy.F a0 b0 b1 b2 b3 b4 b5 b6 b7 b8 b9).2.2.2.2.2.2.1, .int (Zy.F a0 b0 b1 b2 b3 b4 b5 b6 b7 b8 b9).2.2.2.2.2.2.2.1, .int (Zy.F a0 b0 b1 b2 b3 b4 b5 b6 b7 b8 b9).2.2.2.2.2.2.2.2.1, .bool (Zy.F a0 b0 b1 b2 b3 b4 b5 b6 b7 b8 b9).2.2.2.2.2.2.2.2.2] : AV).v R0) := by
 refine w1 fun v O hv hO => ⟨_, _, Tryz.func74, rfl, by kernel_rfl, Nat.le_of_ble_eq_true rfl, ?_⟩
 unfold ZX.g
 generalize hf0 : ZX.F = f0
 unfold Zz.g
 generalize hf1 : Zz.F = f1
 unfold ZS.g
 generalize hf2 : ZS.F = f2
 (try cbv)
 repeat' (apply And.intro <;> (try intro h) <;> (try cbv))
 all_goals (subst hv hO; subst hf0; subst hf1; subst hf2; (try dsimp only [std] at *); (try simp only [nt_] at *)) <;> first | rfl | (simp only [Zy.F, Zy.f, AV.v, AV.vs, ZX.tot, Zz.tot, ZS.tot, Zy.j0, nv_, reduceIte, *]; done) | (simp_all (maxSteps := 1000000) [std, Zy.F, Zy.f, AV.v, AV.vs, ZX.tot, Zz.tot, ZS.tot, Zy.j0] <;> (repeat' split) <;> first | rfl | omega | (simp_all; done) | (simp_all; omega))
theorem Zy.fn : Fn 74 Zy.g := by
 refine ⟨⟨_, Tryz.func74, rfl, rfl⟩, fun R l v hg w => ?_⟩
 unfold Zy.g at hg
 split at hg
 ·rename_i x0 x1
  obtain ⟨c0, e0, hg⟩ := Option.bind_eq_some_iff.1 hg
  obtain ⟨c1, e1, hg⟩ := Option.bind_eq_some_iff.1 hg
  injection hg with hg
  subst hg
  have := (Zy.walk c0 c1.f0 c1.f1 c1.f2 c1.f3 c1.f4 c1.f5 c1.f6 c1.f7 c1.f8 c1.f9).calls (all_cons ZX.fn (all_cons Zz.fn (all_cons ZS.fn ZW))) w
  simpa only [AV.vs, AV.v, clA, i1_v R e0, dC_v R e1] using this
 ·cases hg
def ZR.j1 (x42 : Bool) (a0 a1 a3 a9 a4 a5 a6 a7 a2 : Int) (a8 : Bool) : Option (TC) := if x42 = true then (some (a0, a1, a3, 4, a4, a5, a6, a7, a2, a8)) else (if a0 = 2 then (if a2 = a1 then (some (a0, a1, a3, 7, a4, a5, a6, a7, a2, a8)) else ((ZS.f a0 a1 a3 a9 a4 a5 a6 a7 a2 a8 4).bind fun c1 => (some (c1.1, c1.2.1, c1.2.2.1, c1.2.2.2.1, c1.2.2.2.2.1, c1.2.2.2.2.2.1, c1.2.2.2.2.2.2.1, c1.2.2.2.2.2.2.2.1, c1.2.2.2.2.2.2.2.2.1, c1.2.2.2.2.2.2.2.2.2)))) else ((ZS.f a0 a1 a3 a9 a4 a5 a6 a7 a2 a8 4).bind fun c2 => (some (c2.1, c2.2.1, c2.2.2.1, c2.2.2.2.1, c2.2.2.2.2.1, c2.2.2.2.2.2.1, c2.2.2.2.2.2.2.1, c2.2.2.2.2.2.2.2.1, c2.2.2.2.2.2.2.2.2.1, c2.2.2.2.2.2.2.2.2.2))))
def ZR.j0 (x17 : Bool) (a0 a1 a3 a9 a4 a5 a6 a7 a2 : Int) (a8 : Bool) : Option (TC) := if x17 = true then ((ZS.f a0 a1 a3 a9 a4 a5 a6 a7 a2 a8 1).bind fun c3 => (some (c3.1, c3.2.1, c3.2.2.1, c3.2.2.2.1, c3.2.2.2.2.1, c3.2.2.2.2.2.1, c3.2.2.2.2.2.2.1, c3.2.2.2.2.2.2.2.1, c3.2.2.2.2.2.2.2.2.1, c3.2.2.2.2.2.2.2.2.2))) else (if a0 = 3 then ((ZS.f a0 a1 a3 a9 a4 a5 a6 a7 a2 a8 4).bind fun c4 => (some (c4.1, c4.2.1, c4.2.2.1, c4.2.2.2.1, c4.2.2.2.2.1, c4.2.2.2.2.2.1, c4.2.2.2.2.2.2.1, c4.2.2.2.2.2.2.2.1, c4.2.2.2.2.2.2.2.2.1, c4.2.2.2.2.2.2.2.2.2))) else (if a0 = 1 then (ZR.j1 (decide (a2 > a1)) a0 a1 a3 a9 a4 a5 a6 a7 a2 a8) else (ZR.j1 false a0 a1 a3 a9 a4 a5 a6 a7 a2 a8)))
def ZR.f (b0 b1 b2 b3 b4 b5 b6 b7 b8 : Int) (b9 : Bool) : Option (TC) := if b8 < b1 then ((Z8.f b5).bind fun c5 => (some (b0, b1, b2, 0, wrap64 (2 + (wrap64 (2 * c5))), b5, b6, b7, b8, b9))) else (if b0 = 3 then (if b8 = b1 then (ZR.j0 ((Int.tmod b6 2) == 0) b0 b1 b2 b3 b4 b5 b6 b7 b8 b9) else (ZR.j0 false b0 b1 b2 b3 b4 b5 b6 b7 b8 b9)) else (ZR.j0 false b0 b1 b2 b3 b4 b5 b6 b7 b8 b9))
def ZR.F (b0 b1 b2 b3 b4 b5 b6 b7 b8 : Int) (b9 : Bool) : TC := (ZR.f b0 b1 b2 b3 b4 b5 b6 b7 b8 b9).getD (0, 0, 0, 0, 0, 0, 0, 0, 0, false)
theorem ZR.j1.isS (x42 : Bool) (a0 a1 a3 a9 a4 a5 a6 a7 a2 : Int) (a8 : Bool) : ∃ r, ZR.j1 x42 a0 a1 a3 a9 a4 a5 a6 a7 a2 a8 = some r := by
 unfold ZR.j1
 (try simp only [Z8.tot, ZS.tot, Option.bind_some])
 repeat' (first | exact ⟨_, rfl⟩ | (exfalso; omega) | split)
theorem ZR.j0.isS (x17 : Bool) (a0 a1 a3 a9 a4 a5 a6 a7 a2 : Int) (a8 : Bool) : ∃ r, ZR.j0 x17 a0 a1 a3 a9 a4 a5 a6 a7 a2 a8 = some r := by
 unfold ZR.j0
 (try simp only [Z8.tot, ZS.tot, Option.bind_some])
 repeat' (first | exact ⟨_, rfl⟩ | exact ZR.j1.isS .. | (exfalso; omega) | split)
theorem ZR.f.isS (b0 b1 b2 b3 b4 b5 b6 b7 b8 : Int) (b9 : Bool) : ∃ r, ZR.f b0 b1 b2 b3 b4 b5 b6 b7 b8 b9 = some r := by
 unfold ZR.f
 (try simp only [Z8.tot, ZS.tot, Option.bind_some])
 repeat' (first | exact ⟨_, rfl⟩ | exact ZR.j1.isS .. | exact ZR.j0.isS .. | (exfalso; omega) | split)
theorem ZR.tot (b0 b1 b2 b3 b4 b5 b6 b7 b8 : Int) (b9 : Bool) : ZR.f b0 b1 b2 b3 b4 b5 b6 b7 b8 b9 = some (ZR.F b0 b1 b2 b3 b4 b5 b6 b7 b8 b9) := by
 obtain ⟨r, h⟩ := ZR.f.isS b0 b1 b2 b3 b4 b5 b6 b7 b8 b9
 unfold ZR.F
 rw [h]
 rfl
def ZR.g : List AV → Option AV
 | [x0] => (dC x0).bind fun c0 => some (.agg [.int (ZR.F c0.f0 c0.f1 c0.f2 c0.f3 c0.f4 c0.f5 c0.f6 c0.f7 c0.f8 c0.f9).1, .int (ZR.F c0.f0 c0.f1 c0.f2 c0.f3 c0.f4 c0.f5 c0.f6 c0.f7 c0.f8 c0.f9).2.1, .int (ZR.F c0.f0 c0.f1 c0.f2 c0.f3 c0.f4 c0.f5 c0.f6 c0.f7 c0.f8 c0.f9).2.2.1, .int (ZR.F c0.f0 c0.f1 c0.f2 c0.f3 c0.f4 c0.f5 c0.f6 c0.f7 c0.f8 c0.f9).2.2.2.1, .int (ZR.F c0.f0 c0.f1 c0.f2 c0.f3 c0.f4 c0.f5 c0.f6 c0.f7 c0.f8 c0.f9).2.2.2.2.1, .int (ZR.F c0.f0 c0.f1 c0.f2 c0.f3 c0.f4 c0.f5 c0.f6 c0.f7 c0.f8 c0.f9).2.2.2.2.2.1, .int (ZR.F c0.f0 c0.f1 c0.f2 c0.f3 c0.f4 c0.f5 c0.f6 c0.f7 c0.f8 c0.f9).2.2.2.2.2.2.1, .int (ZR.F c0.f0 c0.f1 c0.f2 c0.f3 c0.f4 c0.f5 c0.f6 c0.f7 c0.f8 c0.f9).2.2.2.2.2.2.2.1, .int (ZR.F c0.f0 c0.f1 c0.f2 c0.f3 c0.f4 c0.f5 c0.f6 c0.f7 c0.f8 c0.f9).2.2.2.2.2.2.2.2.1, .bool (ZR.F c0.f0 c0.f1 c0.f2 c0.f3 c0.f4 c0.f5 c0.f6 c0.f7 c0.f8 c0.f9).2.2.2.2.2.2.2.2.2])
 | _ => none
theorem ZR.walk (b0 b1 b2 b3 b4 b5 b6 b7 b8 : Int) (b9 : Bool) : Walk 75 [(101, Z8.g), (77, ZS.g)] 7 900 [.agg [.int b0, .int b1, .int b2, .int b3, .int b4, .int b5, .int b6, .int b7, .int b8, .bool b9]] ((.agg [.int (ZR.F b0 b1 b2 b3 b4 b5 b6 b7 b8 b9).1, .int (ZR.F b0 b1 b2 b3 b4 b5 b6 b7 b8 b9).2.1, .int (ZR.F b0 b1 b2 b3 b4 b5 b6 b7 b8 b9).2.2.1, .int (ZR.F b0 b1 b2 b3 b4 b5 b6 b7 b8 b9).2.2.2.1, .int (ZR.F b0 b1 b2 b3 b4 b5 b6 b7 b8 b9).2.2.2.2.1, .int (ZR.F b0 b1 b2 b3 b4 b5 b6 b7 b8 b9).2.2.2.2.2.1, .int (ZR.F b0 b1 b2 b3 b4 b5 b6 b7 b8 b9).2.2.2.2.2.2.1, .int (ZR.F b0 b1 b2 b3 b4 b5 b6 b7 b8 b9).2.2.2.2.2.2.2.1, .int (ZR.F b0 b1 b2 b3 b4 b5 b6 b7 b8 b9).2.2.2.2.2.2.2.2.1, .bool (ZR.F b0 b1 b2 b3 b4 b5 b6 b7 b8 b9).2.2.2.2.2.2.2.2.2] : AV).v R0) := by
 refine w1 fun v O hv hO => ⟨_, _, Tryz.func75, rfl, by kernel_rfl, Nat.le_of_ble_eq_true rfl, ?_⟩
 unfold Z8.g
 generalize hf0 : Z8.F = f0
 unfold ZS.g
 generalize hf1 : ZS.F = f1
 (try cbv)
 repeat' (apply And.intro <;> (try intro h) <;> (try cbv))
 all_goals (subst hv hO; subst hf0; subst hf1; (try dsimp only [std] at *); (try simp only [nt_] at *); (try subst_vars)) <;> first | rfl | (simp only [ZR.F, ZR.f, AV.v, AV.vs, Z8.tot, ZS.tot, ZR.j1, ZR.j0, nv_, reduceIte, bne_iff_ne, bne_self_eq_false, not_false_eq_true, not_true_eq_false, ne_eq, *]; done) | (simp_all (maxSteps := 1000000) [std, ZR.F, ZR.f, AV.v, AV.vs, Z8.tot, ZS.tot, ZR.j1, ZR.j0] <;> (repeat' split) <;> first | rfl | omega | (simp_all; done) | (simp_all; omega))
theorem ZR.fn : Fn 75 ZR.g := by
 refine ⟨⟨_, Tryz.func75, rfl, rfl⟩, fun R l v hg w => ?_⟩
 unfold ZR.g at hg
 split at hg
 ·rename_i x0
  obtain ⟨c0, e0, hg⟩ := Option.bind_eq_some_iff.1 hg
  injection hg with hg
  subst hg
  have := (ZR.walk c0.f0 c0.f1 c0.f2 c0.f3 c0.f4 c0.f5 c0.f6 c0.f7 c0.f8 c0.f9).calls (all_cons Z8.fn (all_cons ZS.fn ZW)) w
  simpa only [AV.vs, AV.v, clA, dC_v R e0] using this
 ·cases hg
end Go.Proofs.YtgghglocfdcegaaGreat.Xec
