/- Part S2 of the proof of FnExactCrewStep and FnExactCrewRun (wip/xec, pack.py). No condition. -/
import Derived.Test.YtgghglocfdcegaaGreatKE
namespace Go.Proofs.YtgghglocfdcegaaGreat.Xec
open Go Go.RowKit Go.Proofs.YtgghglocfdcegaaGreat.PFnExactCrewRun Go.Proofs.YtgghglocfdcegaaGreatW.PrintWords
set_option linter.unusedVariables false
set_option linter.unusedSimpArgs false
set_option maxRecDepth 100000
set_option maxHeartbeats 16000000
def Zi.j3 (x6 x7 x8 : Int) (x79 : Bool) (a1 a3 a6 a2 a7 a4 a5 a8 a9 : Int) (c2 : Bool) : Option (TA) := if x79 = true then (some (2, wrap64 (1 + a3), wrap64 (x6 + 1), 0, true)) else (if a2 = 1 then (some (1, wrap64 (1 + x6), 0, 0, true)) else ((Zan.f x7).bind fun c5 => ((Zas.f c5 x8).bind fun c4 => (if c4.2 = true then (some (3, 0, a5, c4.1, true)) else (some (0, 0, 0, 0, false))))))
def Zi.j2 (x6 x7 x8 a1 a3 a6 a2 a7 a4 a5 a8 a9 : Int) (c2 : Bool) : Option (TA) := if a2 = 0 then (some (1, 0, 0, 0, true)) else (if a2 = 1 then (Zi.j3 x6 x7 x8 (a1 == 1) a1 a3 a6 a2 a7 a4 a5 a8 a9 c2) else (Zi.j3 x6 x7 x8 false a1 a3 a6 a2 a7 a4 a5 a8 a9 c2))
def Zi.j1 (x6 x7 : Int) (x64 : Bool) (a1 a3 a6 a2 a7 a4 a5 a8 a9 : Int) (c2 : Bool) : Option (TA) := if x64 = true then (some (0, 0, 0, 0, false)) else (if a1 = 1 then (Zi.j2 x6 x7 (wrap64 (a3 + 1)) a1 a3 a6 a2 a7 a4 a5 a8 a9 c2) else (Zi.j2 x6 x7 a4 a1 a3 a6 a2 a7 a4 a5 a8 a9 c2))
def Zi.j0 (x0 x6 x7 : Int) (x35 : Bool) (a1 a3 a6 a2 a7 a4 a5 a8 a9 : Int) (c2 : Bool) : Option (TA) := if x35 = true then (some (0, 0, 0, 0, false)) else (if a1 = 1 then ((impl_within.f a3 0 (wrap64 (x0 - 1))).bind fun c6 => (if c6 = true then (if a1 = 2 then (if a2 > 0 then ((impl_within.f x6 0 (wrap64 (x0 - 1))).bind fun c7 => (Zi.j1 x6 x7 (!c7) a1 a3 a6 a2 a7 a4 a5 a8 a9 c2)) else (Zi.j1 x6 x7 false a1 a3 a6 a2 a7 a4 a5 a8 a9 c2)) else (Zi.j1 x6 x7 false a1 a3 a6 a2 a7 a4 a5 a8 a9 c2)) else (Zi.j1 x6 x7 true a1 a3 a6 a2 a7 a4 a5 a8 a9 c2))) else (if a1 = 2 then (if a2 > 0 then ((impl_within.f x6 0 (wrap64 (x0 - 1))).bind fun c8 => (Zi.j1 x6 x7 (!c8) a1 a3 a6 a2 a7 a4 a5 a8 a9 c2)) else (Zi.j1 x6 x7 false a1 a3 a6 a2 a7 a4 a5 a8 a9 c2)) else (Zi.j1 x6 x7 false a1 a3 a6 a2 a7 a4 a5 a8 a9 c2)))
def Zi.f (a0 b0 b1 b2 b3 b4 b5 b6 b7 b8 : Int) (b9 : Bool) : Option (TA) := (Zab.f b6).bind fun c3 => (if b9 = true then (Zi.j0 a0 c3.1 c3.2 true b0 b1 b2 b3 b4 b5 b6 b7 b8 b9) else ((impl_within.f a0 1 16).bind fun c9 => (if c9 = true then ((impl_within.f b0 1 2).bind fun d0 => (if d0 = true then ((impl_within.f b3 0 2).bind fun d1 => (Zi.j0 a0 c3.1 c3.2 (!d1) b0 b1 b2 b3 b4 b5 b6 b7 b8 b9)) else (Zi.j0 a0 c3.1 c3.2 true b0 b1 b2 b3 b4 b5 b6 b7 b8 b9))) else (Zi.j0 a0 c3.1 c3.2 true b0 b1 b2 b3 b4 b5 b6 b7 b8 b9))))
def Zi.F (a0 b0 b1 b2 b3 b4 b5 b6 b7 b8 : Int) (b9 : Bool) : TA := (Zi.f a0 b0 b1 b2 b3 b4 b5 b6 b7 b8 b9).getD (0, 0, 0, 0, false)
theorem Zi.j3.isS (x6 x7 x8 : Int) (x79 : Bool) (a1 a3 a6 a2 a7 a4 a5 a8 a9 : Int) (c2 : Bool) : ∃ r, Zi.j3 x6 x7 x8 x79 a1 a3 a6 a2 a7 a4 a5 a8 a9 c2 = some r := by
 unfold Zi.j3
 (try simp only [impl_within.tot, Zab.tot, Zas.tot, Zan.tot, Option.bind_some])
 repeat' (first | exact ⟨_, rfl⟩ | (exfalso; omega) | split)
theorem Zi.j2.isS (x6 x7 x8 a1 a3 a6 a2 a7 a4 a5 a8 a9 : Int) (c2 : Bool) : ∃ r, Zi.j2 x6 x7 x8 a1 a3 a6 a2 a7 a4 a5 a8 a9 c2 = some r := by
 unfold Zi.j2
 (try simp only [impl_within.tot, Zab.tot, Zas.tot, Zan.tot, Option.bind_some])
 repeat' (first | exact ⟨_, rfl⟩ | exact Zi.j3.isS .. | (exfalso; omega) | split)
theorem Zi.j1.isS (x6 x7 : Int) (x64 : Bool) (a1 a3 a6 a2 a7 a4 a5 a8 a9 : Int) (c2 : Bool) : ∃ r, Zi.j1 x6 x7 x64 a1 a3 a6 a2 a7 a4 a5 a8 a9 c2 = some r := by
 unfold Zi.j1
 (try simp only [impl_within.tot, Zab.tot, Zas.tot, Zan.tot, Option.bind_some])
 repeat' (first | exact ⟨_, rfl⟩ | exact Zi.j3.isS .. | exact Zi.j2.isS .. | (exfalso; omega) | split)
theorem Zi.j0.isS (x0 x6 x7 : Int) (x35 : Bool) (a1 a3 a6 a2 a7 a4 a5 a8 a9 : Int) (c2 : Bool) : ∃ r, Zi.j0 x0 x6 x7 x35 a1 a3 a6 a2 a7 a4 a5 a8 a9 c2 = some r := by
 unfold Zi.j0
 (try simp only [impl_within.tot, Zab.tot, Zas.tot, Zan.tot, Option.bind_some])
 repeat' (first | exact ⟨_, rfl⟩ | exact Zi.j3.isS .. | exact Zi.j2.isS .. | exact Zi.j1.isS .. | (exfalso; omega) | split)
theorem Zi.f.isS (a0 b0 b1 b2 b3 b4 b5 b6 b7 b8 : Int) (b9 : Bool) : ∃ r, Zi.f a0 b0 b1 b2 b3 b4 b5 b6 b7 b8 b9 = some r := by
 unfold Zi.f
 (try simp only [impl_within.tot, Zab.tot, Zas.tot, Zan.tot, Option.bind_some])
 repeat' (first | exact ⟨_, rfl⟩ | exact Zi.j3.isS .. | exact Zi.j2.isS .. | exact Zi.j1.isS .. | exact Zi.j0.isS .. | (exfalso; omega) | split)
theorem Zi.tot (a0 b0 b1 b2 b3 b4 b5 b6 b7 b8 : Int) (b9 : Bool) : Zi.f a0 b0 b1 b2 b3 b4 b5 b6 b7 b8 b9 = some (Zi.F a0 b0 b1 b2 b3 b4 b5 b6 b7 b8 b9) := by
 obtain ⟨r, h⟩ := Zi.f.isS a0 b0 b1 b2 b3 b4 b5 b6 b7 b8 b9
 unfold Zi.F
 rw [h]
 rfl
def Zi.g : List AV → Option AV
 | [x0, x1] => (i1 x0).bind fun c0 => (dC x1).bind fun c1 => some (.tup [.agg [.int (Zi.F c0 c1.f0 c1.f1 c1.f2 c1.f3 c1.f4 c1.f5 c1.f6 c1.f7 c1.f8 c1.f9).1, .int (Zi.F c0 c1.f0 c1.f1 c1.f2 c1.f3 c1.f4 c1.f5 c1.f6 c1.f7 c1.f8 c1.f9).2.1, .int (Zi.F c0 c1.f0 c1.f1 c1.f2 c1.f3 c1.f4 c1.f5 c1.f6 c1.f7 c1.f8 c1.f9).2.2.1, .int (Zi.F c0 c1.f0 c1.f1 c1.f2 c1.f3 c1.f4 c1.f5 c1.f6 c1.f7 c1.f8 c1.f9).2.2.2.1], .bool (Zi.F c0 c1.f0 c1.f1 c1.f2 c1.f3 c1.f4 c1.f5 c1.f6 c1.f7 c1.f8 c1.f9).2.2.2.2])
 | _ => none
theorem Zi.walk (a0 b0 b1 b2 b3 b4 b5 b6 b7 b8 : Int) (b9 : Bool) : Walk 107 [(82, impl_within.g), (110, Zab.g), (117, Zas.g), (118, Zan.g)] 7 900 [.int a0, .agg [.int b0, .int b1, .int b2, .int b3, .int b4, .int b5, .int b6, .int b7, .int b8, .bool b9]] ((.tup [.agg [.int (Zi.F a0 b0 b1 b2 b3 b4 b5 b6 b7 b8 b9).1, .int (Zi.F a0 b0 b1 b2 b3 b4 b5 b6 b7 b8 b9).2.1, .int (Zi.F a0 b0 b1 b2 b3 b4 b5 b6 b7 b8 b9).2.2.1, .int (Zi.F a0 b0 b1 b2 b3 b4 b5 b6 b7 b8 b9).2.2.2.1], .bool (Zi.F a0 b0 b1 b2 b3 b4 b5 b6 b7 b8 b9).2.2.2.2] : AV).v R0) := by
 refine w1 fun v O hv hO => ⟨_, _, Tryz.func107, rfl, by kernel_rfl, Nat.le_of_ble_eq_true rfl, ?_⟩
 unfold impl_within.g
 generalize hf0 : impl_within.F = f0
 unfold Zab.g
 generalize hf1 : Zab.F = f1
 unfold Zas.g
 generalize hf2 : Zas.F = f2
 unfold Zan.g
 generalize hf3 : Zan.F = f3
 (try cbv)
 repeat' (apply And.intro <;> (try intro h) <;> (try cbv))
 all_goals (subst hv hO; subst hf0; subst hf1; subst hf2; subst hf3; (try dsimp only [std] at *); (try simp only [nt_] at *); (try subst_vars)) <;> first | rfl | (simp only [Zi.F, Zi.f, AV.v, AV.vs, impl_within.tot, Zab.tot, Zas.tot, Zan.tot, Zi.j3, Zi.j2, Zi.j1, Zi.j0, nv_, reduceIte, bne_iff_ne, bne_self_eq_false, not_false_eq_true, not_true_eq_false, ne_eq, *]; done) | (simp_all (maxSteps := 1000000) [std, Zi.F, Zi.f, AV.v, AV.vs, impl_within.tot, Zab.tot, Zas.tot, Zan.tot, Zi.j3, Zi.j2, Zi.j1, Zi.j0] <;> (repeat' split) <;> first | rfl | omega | (simp_all; done) | (simp_all; omega))
theorem Zi.fn : Fn 107 Zi.g := by
 refine ⟨⟨_, Tryz.func107, rfl, rfl⟩, fun R l v hg w => ?_⟩
 unfold Zi.g at hg
 split at hg
 ·rename_i x0 x1
  obtain ⟨c0, e0, hg⟩ := Option.bind_eq_some_iff.1 hg
  obtain ⟨c1, e1, hg⟩ := Option.bind_eq_some_iff.1 hg
  injection hg with hg
  subst hg
  have := (Zi.walk c0 c1.f0 c1.f1 c1.f2 c1.f3 c1.f4 c1.f5 c1.f6 c1.f7 c1.f8 c1.f9).calls (all_cons impl_within.fn (all_cons Zab.fn (all_cons Zas.fn (all_cons Zan.fn ZW)))) w
  simpa only [AV.vs, AV.v, clA, i1_v R e0, dC_v R e1] using this
 ·cases hg
def ZU.j1 (x0 x7 : Int) (x60 : Bool) (a3 a4 a5 a1 a2 a6 a7 a8 a9 : Int) (c2 : Bool) : Option (TA) := if x60 = true then (some (2, wrap64 (x7 + 1), a4, 0, true)) else (if a1 = 3 then (some (1, wrap64 (x7 + 1), 0, 0, true)) else (if a3 = 1 then (some (2, x7, wrap64 (a2 + 1), 0, true)) else (some (2, x7, wrap64 (a2 + x0), 0, true))))
def ZU.j0 (x0 : Int) (x26 : Bool) (a3 a4 a5 a1 a2 a6 a7 a8 a9 : Int) (c2 : Bool) : Option (TA) := if x26 = true then (some (0, 0, 0, 0, false)) else ((Zal.f a2 x0).bind fun c3 => (if a1 = 0 then (some (1, wrap64 (a3 - 1), 0, 0, true)) else (if a1 = 1 then (some (1, wrap64 (2 + (wrap64 (2 * c3))), 0, 0, true)) else (if a1 = 2 then (some (3, wrap64 (a3 - 1), a2, wrap64 (a2 + 1), true)) else (if a1 = 3 then (ZU.j1 x0 (wrap64 (2 + (wrap64 (2 * c3)))) (a3 == 1) a3 a4 a5 a1 a2 a6 a7 a8 a9 c2) else (ZU.j1 x0 (wrap64 (2 + (wrap64 (2 * c3)))) false a3 a4 a5 a1 a2 a6 a7 a8 a9 c2))))))
def ZU.f (a0 b0 b1 b2 b3 b4 b5 b6 b7 b8 : Int) (b9 : Bool) : Option (TA) := if b9 = true then (ZU.j0 a0 true b0 b1 b2 b3 b4 b5 b6 b7 b8 b9) else ((impl_within.f a0 2 16).bind fun c4 => (if c4 = true then ((impl_within.f b0 1 2).bind fun c5 => (if c5 = true then ((impl_within.f b3 0 4).bind fun c6 => (ZU.j0 a0 (!c6) b0 b1 b2 b3 b4 b5 b6 b7 b8 b9)) else (ZU.j0 a0 true b0 b1 b2 b3 b4 b5 b6 b7 b8 b9))) else (ZU.j0 a0 true b0 b1 b2 b3 b4 b5 b6 b7 b8 b9)))
def ZU.F (a0 b0 b1 b2 b3 b4 b5 b6 b7 b8 : Int) (b9 : Bool) : TA := (ZU.f a0 b0 b1 b2 b3 b4 b5 b6 b7 b8 b9).getD (0, 0, 0, 0, false)
theorem ZU.j1.isS (x0 x7 : Int) (x60 : Bool) (a3 a4 a5 a1 a2 a6 a7 a8 a9 : Int) (c2 : Bool) : ∃ r, ZU.j1 x0 x7 x60 a3 a4 a5 a1 a2 a6 a7 a8 a9 c2 = some r := by
 unfold ZU.j1
 (try simp only [impl_within.tot, Zal.tot, Option.bind_some])
 repeat' (first | exact ⟨_, rfl⟩ | (exfalso; omega) | split)
theorem ZU.j0.isS (x0 : Int) (x26 : Bool) (a3 a4 a5 a1 a2 a6 a7 a8 a9 : Int) (c2 : Bool) : ∃ r, ZU.j0 x0 x26 a3 a4 a5 a1 a2 a6 a7 a8 a9 c2 = some r := by
 unfold ZU.j0
 (try simp only [impl_within.tot, Zal.tot, Option.bind_some])
 repeat' (first | exact ⟨_, rfl⟩ | exact ZU.j1.isS .. | (exfalso; omega) | split)
theorem ZU.f.isS (a0 b0 b1 b2 b3 b4 b5 b6 b7 b8 : Int) (b9 : Bool) : ∃ r, ZU.f a0 b0 b1 b2 b3 b4 b5 b6 b7 b8 b9 = some r := by
 unfold ZU.f
 (try simp only [impl_within.tot, Zal.tot, Option.bind_some])
 repeat' (first | exact ⟨_, rfl⟩ | exact ZU.j1.isS .. | exact ZU.j0.isS .. | (exfalso; omega) | split)
theorem ZU.tot (a0 b0 b1 b2 b3 b4 b5 b6 b7 b8 : Int) (b9 : Bool) : ZU.f a0 b0 b1 b2 b3 b4 b5 b6 b7 b8 b9 = some (ZU.F a0 b0 b1 b2 b3 b4 b5 b6 b7 b8 b9) := by
 obtain ⟨r, h⟩ := ZU.f.isS a0 b0 b1 b2 b3 b4 b5 b6 b7 b8 b9
 unfold ZU.F
 rw [h]
 rfl
def ZU.g : List AV → Option AV
 | [x0, x1] => (i1 x0).bind fun c0 => (dC x1).bind fun c1 => some (.tup [.agg [.int (ZU.F c0 c1.f0 c1.f1 c1.f2 c1.f3 c1.f4 c1.f5 c1.f6 c1.f7 c1.f8 c1.f9).1, .int (ZU.F c0 c1.f0 c1.f1 c1.f2 c1.f3 c1.f4 c1.f5 c1.f6 c1.f7 c1.f8 c1.f9).2.1, .int (ZU.F c0 c1.f0 c1.f1 c1.f2 c1.f3 c1.f4 c1.f5 c1.f6 c1.f7 c1.f8 c1.f9).2.2.1, .int (ZU.F c0 c1.f0 c1.f1 c1.f2 c1.f3 c1.f4 c1.f5 c1.f6 c1.f7 c1.f8 c1.f9).2.2.2.1], .bool (ZU.F c0 c1.f0 c1.f1 c1.f2 c1.f3 c1.f4 c1.f5 c1.f6 c1.f7 c1.f8 c1.f9).2.2.2.2])
 | _ => none
theorem ZU.walk (a0 b0 b1 b2 b3 b4 b5 b6 b7 b8 : Int) (b9 : Bool) : Walk 111 [(82, impl_within.g), (51, Zal.g)] 7 900 [.int a0, .agg [.int b0, .int b1, .int b2, .int b3, .int b4, .int b5, .int b6, .int b7, .int b8, .bool b9]] ((.tup [.agg [.int (ZU.F a0 b0 b1 b2 b3 b4 b5 b6 b7 b8 b9).1, .int (ZU.F a0 b0 b1 b2 b3 b4 b5 b6 b7 b8 b9).2.1, .int (ZU.F a0 b0 b1 b2 b3 b4 b5 b6 b7 b8 b9).2.2.1, .int (ZU.F a0 b0 b1 b2 b3 b4 b5 b6 b7 b8 b9).2.2.2.1], .bool (ZU.F a0 b0 b1 b2 b3 b4 b5 b6 b7 b8 b9).2.2.2.2] : AV).v R0) := by
 refine w1 fun v O hv hO => ⟨_, _, Tryz.func111, rfl, by kernel_rfl, Nat.le_of_ble_eq_true rfl, ?_⟩
 unfold impl_within.g
 generalize hf0 : impl_within.F = f0
 unfold Zal.g
 generalize hf1 : Zal.F = f1
 (try cbv)
 repeat' (apply And.intro <;> (try intro h) <;> (try cbv))
 all_goals (subst hv hO; subst hf0; subst hf1; (try dsimp only [std] at *); (try simp only [nt_] at *)) <;> first | rfl | (simp only [ZU.F, ZU.f, AV.v, AV.vs, impl_within.tot, Zal.tot, ZU.j1, ZU.j0, nv_, reduceIte, *]; done) | (simp_all (maxSteps := 1000000) [std, ZU.F, ZU.f, AV.v, AV.vs, impl_within.tot, Zal.tot, ZU.j1, ZU.j0] <;> (repeat' split) <;> first | rfl | omega | (simp_all; done) | (simp_all; omega))
theorem ZU.fn : Fn 111 ZU.g := by
 refine ⟨⟨_, Tryz.func111, rfl, rfl⟩, fun R l v hg w => ?_⟩
 unfold ZU.g at hg
 split at hg
 ·rename_i x0 x1
  obtain ⟨c0, e0, hg⟩ := Option.bind_eq_some_iff.1 hg
  obtain ⟨c1, e1, hg⟩ := Option.bind_eq_some_iff.1 hg
  injection hg with hg
  subst hg
  have := (ZU.walk c0 c1.f0 c1.f1 c1.f2 c1.f3 c1.f4 c1.f5 c1.f6 c1.f7 c1.f8 c1.f9).calls (all_cons impl_within.fn (all_cons Zal.fn ZW)) w
  simpa only [AV.vs, AV.v, clA, i1_v R e0, dC_v R e1] using this
 ·cases hg
end Go.Proofs.YtgghglocfdcegaaGreat.Xec
