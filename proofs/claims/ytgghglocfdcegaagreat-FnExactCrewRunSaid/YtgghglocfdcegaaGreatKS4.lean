/- Part S4 of the proof of FnExactCrewStep and FnExactCrewRun (wip/xec, pack.py). No condition. -/
import Derived.Test.YtgghglocfdcegaaGreatKE
namespace Go.Proofs.YtgghglocfdcegaaGreat.Xec
open Go Go.RowKit Go.Proofs.YtgghglocfdcegaaGreat.PFnExactCrewRun Go.Proofs.YtgghglocfdcegaaGreatW.PrintWords
set_option linter.unusedVariables false
set_option linter.unusedSimpArgs false
set_option maxRecDepth 100000
set_option maxHeartbeats 16000000
def Za.j3 (x6 : Int) (x98 : Bool) (a7 a6 a3 a1 a4 a5 a2 a8 a9 : Int) (c2 : Bool) : Option (TA) := if x98 = true then (some (0, 0, 0, 0, false)) else (if a1 = 0 then (some (1, a4, 0, 0, true)) else (if a1 = 1 then ((Zl.f x6).bind fun c4 => (some (1, c4, 0, 0, true))) else (if a1 = 2 then ((Zs.f x6).bind fun c5 => (some (1, c5, 0, 0, true))) else (if a1 = 3 then (some (3, a4, a5, wrap64 (a2 - (Int.tmod a2 2)), true)) else (if a1 = 4 then ((Zs.f a3).bind fun c6 => (some (2, c6, a6, 0, true))) else (if a1 = 5 then ((Zl.f a3).bind fun c7 => (some (2, c7, a5, 0, true))) else (if a1 = 6 then (some (3, a4, a5, wrap64 (2 * (wrap64 (a3 + 1))), true)) else ((Zl.f x6).bind fun c8 => (some (3, c8, a2, wrap64 ((wrap64 (a2 - (Int.tmod a2 2))) + 1), true))))))))))
def Za.j2 (x0 : Int) (x69 : Bool) (a7 a6 a3 a1 a4 a5 a2 a8 a9 : Int) (c2 : Bool) : Option (TA) := if x69 = true then (some (0, 0, 0, 0, false)) else ((Zq.f a5).bind fun c3 => ((impl_within.f a1 1 3).bind fun c9 => (if c9 = true then (if c3 < 0 then (Za.j3 c3 true a7 a6 a3 a1 a4 a5 a2 a8 a9 c2) else ((impl_within.f a1 4 6).bind fun d0 => (if d0 = true then ((impl_within.f a3 0 (wrap64 (x0 - 1))).bind fun d1 => (Za.j3 c3 (!d1) a7 a6 a3 a1 a4 a5 a2 a8 a9 c2)) else (Za.j3 c3 false a7 a6 a3 a1 a4 a5 a2 a8 a9 c2)))) else (if a1 = 7 then (if c3 < 0 then (Za.j3 c3 true a7 a6 a3 a1 a4 a5 a2 a8 a9 c2) else ((impl_within.f a1 4 6).bind fun d2 => (if d2 = true then ((impl_within.f a3 0 (wrap64 (x0 - 1))).bind fun d3 => (Za.j3 c3 (!d3) a7 a6 a3 a1 a4 a5 a2 a8 a9 c2)) else (Za.j3 c3 false a7 a6 a3 a1 a4 a5 a2 a8 a9 c2)))) else ((impl_within.f a1 4 6).bind fun d4 => (if d4 = true then ((impl_within.f a3 0 (wrap64 (x0 - 1))).bind fun d5 => (Za.j3 c3 (!d5) a7 a6 a3 a1 a4 a5 a2 a8 a9 c2)) else (Za.j3 c3 false a7 a6 a3 a1 a4 a5 a2 a8 a9 c2)))))))
def Za.j1 (x0 : Int) (x41 : Bool) (a7 a6 a3 a1 a4 a5 a2 a8 a9 : Int) (c2 : Bool) : Option (TA) := if x41 = true then (some (0, 0, 0, 0, false)) else (if a1 > 0 then ((Zr.f a5 x0).bind fun d6 => (if d6 = true then (if a1 = 3 then ((Zr.f a2 x0).bind fun d7 => (Za.j2 x0 (!d7) a7 a6 a3 a1 a4 a5 a2 a8 a9 c2)) else (if a1 = 7 then ((Zr.f a2 x0).bind fun d8 => (Za.j2 x0 (!d8) a7 a6 a3 a1 a4 a5 a2 a8 a9 c2)) else (Za.j2 x0 false a7 a6 a3 a1 a4 a5 a2 a8 a9 c2))) else (Za.j2 x0 true a7 a6 a3 a1 a4 a5 a2 a8 a9 c2))) else (if a1 = 3 then ((Zr.f a2 x0).bind fun d9 => (Za.j2 x0 (!d9) a7 a6 a3 a1 a4 a5 a2 a8 a9 c2)) else (if a1 = 7 then ((Zr.f a2 x0).bind fun e2 => (Za.j2 x0 (!e2) a7 a6 a3 a1 a4 a5 a2 a8 a9 c2)) else (Za.j2 x0 false a7 a6 a3 a1 a4 a5 a2 a8 a9 c2))))
def Za.j0 (x0 : Int) (x21 : Bool) (a7 a6 a3 a1 a4 a5 a2 a8 a9 : Int) (c2 : Bool) : Option (TA) := if x21 = true then (some (0, 0, 0, 0, false)) else (if a4 = 0 then (Za.j1 x0 false a7 a6 a3 a1 a4 a5 a2 a8 a9 c2) else ((Zl.f 0).bind fun e3 => ((Zl.f (wrap64 (x0 - 1))).bind fun e4 => ((impl_within.f a4 e3 e4).bind fun e5 => (if e5 = true then (Za.j1 x0 ((Int.tmod a4 2) != 0) a7 a6 a3 a1 a4 a5 a2 a8 a9 c2) else (Za.j1 x0 true a7 a6 a3 a1 a4 a5 a2 a8 a9 c2))))))
def Za.f (a0 b0 b1 b2 b3 b4 b5 b6 b7 b8 : Int) (b9 : Bool) : Option (TA) := if b9 = true then (Za.j0 a0 true b0 b1 b2 b3 b4 b5 b6 b7 b8 b9) else ((impl_within.f a0 1 16).bind fun e6 => (if e6 = true then ((Zp.f b0 b3).bind fun e7 => (Za.j0 a0 (!e7) b0 b1 b2 b3 b4 b5 b6 b7 b8 b9)) else (Za.j0 a0 true b0 b1 b2 b3 b4 b5 b6 b7 b8 b9)))
def Za.F (a0 b0 b1 b2 b3 b4 b5 b6 b7 b8 : Int) (b9 : Bool) : TA := (Za.f a0 b0 b1 b2 b3 b4 b5 b6 b7 b8 b9).getD (0, 0, 0, 0, false)
theorem Za.j3.isS (x6 : Int) (x98 : Bool) (a7 a6 a3 a1 a4 a5 a2 a8 a9 : Int) (c2 : Bool) : ∃ r, Za.j3 x6 x98 a7 a6 a3 a1 a4 a5 a2 a8 a9 c2 = some r := by
 unfold Za.j3
 (try simp only [impl_within.tot, Zq.tot, Zr.tot, Zp.tot, Zl.tot, Zs.tot, Option.bind_some])
 repeat' (first | exact ⟨_, rfl⟩ | (exfalso; omega) | split)
theorem Za.j2.isS (x0 : Int) (x69 : Bool) (a7 a6 a3 a1 a4 a5 a2 a8 a9 : Int) (c2 : Bool) : ∃ r, Za.j2 x0 x69 a7 a6 a3 a1 a4 a5 a2 a8 a9 c2 = some r := by
 unfold Za.j2
 (try simp only [impl_within.tot, Zq.tot, Zr.tot, Zp.tot, Zl.tot, Zs.tot, Option.bind_some])
 repeat' (first | exact ⟨_, rfl⟩ | exact Za.j3.isS .. | (exfalso; omega) | split)
theorem Za.j1.isS (x0 : Int) (x41 : Bool) (a7 a6 a3 a1 a4 a5 a2 a8 a9 : Int) (c2 : Bool) : ∃ r, Za.j1 x0 x41 a7 a6 a3 a1 a4 a5 a2 a8 a9 c2 = some r := by
 unfold Za.j1
 (try simp only [impl_within.tot, Zq.tot, Zr.tot, Zp.tot, Zl.tot, Zs.tot, Option.bind_some])
 repeat' (first | exact ⟨_, rfl⟩ | exact Za.j3.isS .. | exact Za.j2.isS .. | (exfalso; omega) | split)
theorem Za.j0.isS (x0 : Int) (x21 : Bool) (a7 a6 a3 a1 a4 a5 a2 a8 a9 : Int) (c2 : Bool) : ∃ r, Za.j0 x0 x21 a7 a6 a3 a1 a4 a5 a2 a8 a9 c2 = some r := by
 unfold Za.j0
 (try simp only [impl_within.tot, Zq.tot, Zr.tot, Zp.tot, Zl.tot, Zs.tot, Option.bind_some])
 repeat' (first | exact ⟨_, rfl⟩ | exact Za.j3.isS .. | exact Za.j2.isS .. | exact Za.j1.isS .. | (exfalso; omega) | split)
theorem Za.f.isS (a0 b0 b1 b2 b3 b4 b5 b6 b7 b8 : Int) (b9 : Bool) : ∃ r, Za.f a0 b0 b1 b2 b3 b4 b5 b6 b7 b8 b9 = some r := by
 unfold Za.f
 (try simp only [impl_within.tot, Zq.tot, Zr.tot, Zp.tot, Zl.tot, Zs.tot, Option.bind_some])
 repeat' (first | exact ⟨_, rfl⟩ | exact Za.j3.isS .. | exact Za.j2.isS .. | exact Za.j1.isS .. | exact Za.j0.isS .. | (exfalso; omega) | split)
theorem Za.tot (a0 b0 b1 b2 b3 b4 b5 b6 b7 b8 : Int) (b9 : Bool) : Za.f a0 b0 b1 b2 b3 b4 b5 b6 b7 b8 b9 = some (Za.F a0 b0 b1 b2 b3 b4 b5 b6 b7 b8 b9) := by
 obtain ⟨r, h⟩ := Za.f.isS a0 b0 b1 b2 b3 b4 b5 b6 b7 b8 b9
 unfold Za.F
 rw [h]
 rfl
def Za.g : List AV → Option AV
 | [x0, x1] => (i1 x0).bind fun c0 => (dC x1).bind fun c1 => some (.tup [.agg [.int (Za.F c0 c1.f0 c1.f1 c1.f2 c1.f3 c1.f4 c1.f5 c1.f6 c1.f7 c1.f8 c1.f9).1, .int (Za.F c0 c1.f0 c1.f1 c1.f2 c1.f3 c1.f4 c1.f5 c1.f6 c1.f7 c1.f8 c1.f9).2.1, .int (Za.F c0 c1.f0 c1.f1 c1.f2 c1.f3 c1.f4 c1.f5 c1.f6 c1.f7 c1.f8 c1.f9).2.2.1, .int (Za.F c0 c1.f0 c1.f1 c1.f2 c1.f3 c1.f4 c1.f5 c1.f6 c1.f7 c1.f8 c1.f9).2.2.2.1], .bool (Za.F c0 c1.f0 c1.f1 c1.f2 c1.f3 c1.f4 c1.f5 c1.f6 c1.f7 c1.f8 c1.f9).2.2.2.2])
 | _ => none
theorem impl_within.val (a b c : Int) : impl_within.F a b c = (decide (b ≤ a) && decide (a ≤ c)) := by
 unfold impl_within.F impl_within.f
 split
 ·rename_i h
  rw [decide_eq_true h]
  rfl
 ·rename_i h
  rw [decide_eq_false h]
  rfl
def impl_within.h : List AV → Option AV
 | [.lit a, .lit b, .lit c] => some (.bl (decide (b ≤ a) && decide (a ≤ c)))
 | l => impl_within.g l
theorem impl_within.hfn : Fn 82 impl_within.h := by
 refine ⟨impl_within.fn.fn, fun R l v hg w => ?_⟩
 unfold impl_within.h at hg
 split at hg
 ·rename_i a b c
  injection hg with hg
  subst hg
  have := impl_within.fn.run R [.int a, .int b, .int c] _ rfl w
  rw [impl_within.val] at this
  exact this
 ·exact impl_within.fn.run R l v hg w
theorem Zp.pc (a b : Int) (h : Zp.F a b = true) : 0 ≤ b ∧ b ≤ 7 := by
 unfold Zp.F Zp.f at h
 simp only [impl_within.tot, impl_within.val, Option.bind_some] at h
 repeat' split at h
 all_goals simp only [Option.getD_some, Bool.and_eq_true, decide_eq_true_eq, beq_iff_eq, Bool.false_eq_true] at *
 all_goals omega
theorem Za.walk0 (a0 b0 b1 b2 b4 b5 b6 b7 b8 : Int) (b9 : Bool) : Walk 112 [(82, impl_within.h), (123, Zq.g), (113, Zr.g), (121, Zp.g), (122, Zl.g), (124, Zs.g)] 8 900 [.int a0, .agg [.int b0, .int b1, .int b2, .lit 0, .int b4, .int b5, .int b6, .int b7, .int b8, .bool b9]] ((.tup [.agg [.int (Za.F a0 b0 b1 b2 0 b4 b5 b6 b7 b8 b9).1, .int (Za.F a0 b0 b1 b2 0 b4 b5 b6 b7 b8 b9).2.1, .int (Za.F a0 b0 b1 b2 0 b4 b5 b6 b7 b8 b9).2.2.1, .int (Za.F a0 b0 b1 b2 0 b4 b5 b6 b7 b8 b9).2.2.2.1], .bool (Za.F a0 b0 b1 b2 0 b4 b5 b6 b7 b8 b9).2.2.2.2] : AV).v R0) := by
 have e13 : impl_within.F 0 1 3 = false := by rw [impl_within.val]; rfl
 have e46 : impl_within.F 0 4 6 = false := by rw [impl_within.val]; rfl
 refine w1 fun v O hv hO => ⟨_, _, Tryz.func112, rfl, by kernel_rfl, Nat.le_of_ble_eq_true rfl, ?_⟩
 unfold impl_within.h impl_within.g
 generalize hf0 : impl_within.F = f0 at e13 e46
 unfold Zq.g
 generalize hf1 : Zq.F = f1
 unfold Zr.g
 generalize hf2 : Zr.F = f2
 unfold Zp.g
 generalize hf3 : Zp.F = f3
 unfold Zl.g
 generalize hf4 : Zl.F = f4
 unfold Zs.g
 generalize hf5 : Zs.F = f5
 (try cbv)
 repeat' (apply And.intro <;> (try intro h) <;> (try cbv))
 all_goals (subst hv hO; subst hf0; subst hf1; subst hf2; subst hf3; subst hf4; subst hf5; (try dsimp only [std] at *); (try simp only [nt_] at *)) <;> first | rfl | (simp only [Za.F, Za.f, AV.v, AV.vs, impl_within.tot, Zq.tot, Zr.tot, Zp.tot, Zl.tot, Zs.tot, Za.j3, Za.j2, Za.j1, Za.j0, nv_, reduceIte, Int.reduceEq, Int.reduceLT, Int.reduceLE, Int.reduceBEq, Int.reduceBNe, Int.reduceNeg, Bool.not_true, Bool.not_false, bne_iff_ne, beq_iff_eq, ne_eq, not_false_eq_true, not_true_eq_false, *]; done) | (simp_all (maxSteps := 1000000) [std, Za.F, Za.f, AV.v, AV.vs, impl_within.tot, Zq.tot, Zr.tot, Zp.tot, Zl.tot, Zs.tot, Za.j3, Za.j2, Za.j1, Za.j0] <;> (repeat' split) <;> first | rfl | omega | (simp_all; done) | (simp_all; omega))
theorem Za.walk1 (a0 b0 b1 b2 b4 b5 b6 b7 b8 : Int) (b9 : Bool) : Walk 112 [(82, impl_within.h), (123, Zq.g), (113, Zr.g), (121, Zp.g), (122, Zl.g), (124, Zs.g)] 8 900 [.int a0, .agg [.int b0, .int b1, .int b2, .lit 1, .int b4, .int b5, .int b6, .int b7, .int b8, .bool b9]] ((.tup [.agg [.int (Za.F a0 b0 b1 b2 1 b4 b5 b6 b7 b8 b9).1, .int (Za.F a0 b0 b1 b2 1 b4 b5 b6 b7 b8 b9).2.1, .int (Za.F a0 b0 b1 b2 1 b4 b5 b6 b7 b8 b9).2.2.1, .int (Za.F a0 b0 b1 b2 1 b4 b5 b6 b7 b8 b9).2.2.2.1], .bool (Za.F a0 b0 b1 b2 1 b4 b5 b6 b7 b8 b9).2.2.2.2] : AV).v R0) := by
 have e13 : impl_within.F 1 1 3 = true := by rw [impl_within.val]; rfl
 have e46 : impl_within.F 1 4 6 = false := by rw [impl_within.val]; rfl
 refine w1 fun v O hv hO => ⟨_, _, Tryz.func112, rfl, by kernel_rfl, Nat.le_of_ble_eq_true rfl, ?_⟩
 unfold impl_within.h impl_within.g
 generalize hf0 : impl_within.F = f0 at e13 e46
 unfold Zq.g
 generalize hf1 : Zq.F = f1
 unfold Zr.g
 generalize hf2 : Zr.F = f2
 unfold Zp.g
 generalize hf3 : Zp.F = f3
 unfold Zl.g
 generalize hf4 : Zl.F = f4
 unfold Zs.g
 generalize hf5 : Zs.F = f5
 (try cbv)
 repeat' (apply And.intro <;> (try intro h) <;> (try cbv))
 all_goals (subst hv hO; subst hf0; subst hf1; subst hf2; subst hf3; subst hf4; subst hf5; (try dsimp only [std] at *); (try simp only [nt_] at *)) <;> first | rfl | (simp only [Za.F, Za.f, AV.v, AV.vs, impl_within.tot, Zq.tot, Zr.tot, Zp.tot, Zl.tot, Zs.tot, Za.j3, Za.j2, Za.j1, Za.j0, nv_, reduceIte, Int.reduceEq, Int.reduceLT, Int.reduceLE, Int.reduceBEq, Int.reduceBNe, Int.reduceNeg, Bool.not_true, Bool.not_false, bne_iff_ne, beq_iff_eq, ne_eq, not_false_eq_true, not_true_eq_false, *]; done) | (simp_all (maxSteps := 1000000) [std, Za.F, Za.f, AV.v, AV.vs, impl_within.tot, Zq.tot, Zr.tot, Zp.tot, Zl.tot, Zs.tot, Za.j3, Za.j2, Za.j1, Za.j0] <;> (repeat' split) <;> first | rfl | omega | (simp_all; done) | (simp_all; omega))
theorem Za.walk2 (a0 b0 b1 b2 b4 b5 b6 b7 b8 : Int) (b9 : Bool) : Walk 112 [(82, impl_within.h), (123, Zq.g), (113, Zr.g), (121, Zp.g), (122, Zl.g), (124, Zs.g)] 8 900 [.int a0, .agg [.int b0, .int b1, .int b2, .lit 2, .int b4, .int b5, .int b6, .int b7, .int b8, .bool b9]] ((.tup [.agg [.int (Za.F a0 b0 b1 b2 2 b4 b5 b6 b7 b8 b9).1, .int (Za.F a0 b0 b1 b2 2 b4 b5 b6 b7 b8 b9).2.1, .int (Za.F a0 b0 b1 b2 2 b4 b5 b6 b7 b8 b9).2.2.1, .int (Za.F a0 b0 b1 b2 2 b4 b5 b6 b7 b8 b9).2.2.2.1], .bool (Za.F a0 b0 b1 b2 2 b4 b5 b6 b7 b8 b9).2.2.2.2] : AV).v R0) := by
 have e13 : impl_within.F 2 1 3 = true := by rw [impl_within.val]; rfl
 have e46 : impl_within.F 2 4 6 = false := by rw [impl_within.val]; rfl
 refine w1 fun v O hv hO => ⟨_, _, Tryz.func112, rfl, by kernel_rfl, Nat.le_of_ble_eq_true rfl, ?_⟩
 unfold impl_within.h impl_within.g
 generalize hf0 : impl_within.F = f0 at e13 e46
 unfold Zq.g
 generalize hf1 : Zq.F = f1
 unfold Zr.g
 generalize hf2 : Zr.F = f2
 unfold Zp.g
 generalize hf3 : Zp.F = f3
 unfold Zl.g
 generalize hf4 : Zl.F = f4
 unfold Zs.g
 generalize hf5 : Zs.F = f5
 (try cbv)
 repeat' (apply And.intro <;> (try intro h) <;> (try cbv))
 all_goals (subst hv hO; subst hf0; subst hf1; subst hf2; subst hf3; subst hf4; subst hf5; (try dsimp only [std] at *); (try simp only [nt_] at *)) <;> first | rfl | (simp only [Za.F, Za.f, AV.v, AV.vs, impl_within.tot, Zq.tot, Zr.tot, Zp.tot, Zl.tot, Zs.tot, Za.j3, Za.j2, Za.j1, Za.j0, nv_, reduceIte, Int.reduceEq, Int.reduceLT, Int.reduceLE, Int.reduceBEq, Int.reduceBNe, Int.reduceNeg, Bool.not_true, Bool.not_false, bne_iff_ne, beq_iff_eq, ne_eq, not_false_eq_true, not_true_eq_false, *]; done) | (simp_all (maxSteps := 1000000) [std, Za.F, Za.f, AV.v, AV.vs, impl_within.tot, Zq.tot, Zr.tot, Zp.tot, Zl.tot, Zs.tot, Za.j3, Za.j2, Za.j1, Za.j0] <;> (repeat' split) <;> first | rfl | omega | (simp_all; done) | (simp_all; omega))
theorem Za.walk3 (a0 b0 b1 b2 b4 b5 b6 b7 b8 : Int) (b9 : Bool) : Walk 112 [(82, impl_within.h), (123, Zq.g), (113, Zr.g), (121, Zp.g), (122, Zl.g), (124, Zs.g)] 8 900 [.int a0, .agg [.int b0, .int b1, .int b2, .lit 3, .int b4, .int b5, .int b6, .int b7, .int b8, .bool b9]] ((.tup [.agg [.int (Za.F a0 b0 b1 b2 3 b4 b5 b6 b7 b8 b9).1, .int (Za.F a0 b0 b1 b2 3 b4 b5 b6 b7 b8 b9).2.1, .int (Za.F a0 b0 b1 b2 3 b4 b5 b6 b7 b8 b9).2.2.1, .int (Za.F a0 b0 b1 b2 3 b4 b5 b6 b7 b8 b9).2.2.2.1], .bool (Za.F a0 b0 b1 b2 3 b4 b5 b6 b7 b8 b9).2.2.2.2] : AV).v R0) := by
 have e13 : impl_within.F 3 1 3 = true := by rw [impl_within.val]; rfl
 have e46 : impl_within.F 3 4 6 = false := by rw [impl_within.val]; rfl
 refine w1 fun v O hv hO => ⟨_, _, Tryz.func112, rfl, by kernel_rfl, Nat.le_of_ble_eq_true rfl, ?_⟩
 unfold impl_within.h impl_within.g
 generalize hf0 : impl_within.F = f0 at e13 e46
 unfold Zq.g
 generalize hf1 : Zq.F = f1
 unfold Zr.g
 generalize hf2 : Zr.F = f2
 unfold Zp.g
 generalize hf3 : Zp.F = f3
 unfold Zl.g
 generalize hf4 : Zl.F = f4
 unfold Zs.g
 generalize hf5 : Zs.F = f5
 (try cbv)
 repeat' (apply And.intro <;> (try intro h) <;> (try cbv))
 all_goals (subst hv hO; subst hf0; subst hf1; subst hf2; subst hf3; subst hf4; subst hf5; (try dsimp only [std] at *); (try simp only [nt_] at *)) <;> first | rfl | (simp only [Za.F, Za.f, AV.v, AV.vs, impl_within.tot, Zq.tot, Zr.tot, Zp.tot, Zl.tot, Zs.tot, Za.j3, Za.j2, Za.j1, Za.j0, nv_, reduceIte, Int.reduceEq, Int.reduceLT, Int.reduceLE, Int.reduceBEq, Int.reduceBNe, Int.reduceNeg, Bool.not_true, Bool.not_false, bne_iff_ne, beq_iff_eq, ne_eq, not_false_eq_true, not_true_eq_false, *]; done) | (simp_all (maxSteps := 1000000) [std, Za.F, Za.f, AV.v, AV.vs, impl_within.tot, Zq.tot, Zr.tot, Zp.tot, Zl.tot, Zs.tot, Za.j3, Za.j2, Za.j1, Za.j0] <;> (repeat' split) <;> first | rfl | omega | (simp_all; done) | (simp_all; omega))
theorem Za.walk4 (a0 b0 b1 b2 b4 b5 b6 b7 b8 : Int) (b9 : Bool) : Walk 112 [(82, impl_within.h), (123, Zq.g), (113, Zr.g), (121, Zp.g), (122, Zl.g), (124, Zs.g)] 8 900 [.int a0, .agg [.int b0, .int b1, .int b2, .lit 4, .int b4, .int b5, .int b6, .int b7, .int b8, .bool b9]] ((.tup [.agg [.int (Za.F a0 b0 b1 b2 4 b4 b5 b6 b7 b8 b9).1, .int (Za.F a0 b0 b1 b2 4 b4 b5 b6 b7 b8 b9).2.1, .int (Za.F a0 b0 b1 b2 4 b4 b5 b6 b7 b8 b9).2.2.1, .int (Za.F a0 b0 b1 b2 4 b4 b5 b6 b7 b8 b9).2.2.2.1], .bool (Za.F a0 b0 b1 b2 4 b4 b5 b6 b7 b8 b9).2.2.2.2] : AV).v R0) := by
 have e13 : impl_within.F 4 1 3 = false := by rw [impl_within.val]; rfl
 have e46 : impl_within.F 4 4 6 = true := by rw [impl_within.val]; rfl
 refine w1 fun v O hv hO => ⟨_, _, Tryz.func112, rfl, by kernel_rfl, Nat.le_of_ble_eq_true rfl, ?_⟩
 unfold impl_within.h impl_within.g
 generalize hf0 : impl_within.F = f0 at e13 e46
 unfold Zq.g
 generalize hf1 : Zq.F = f1
 unfold Zr.g
 generalize hf2 : Zr.F = f2
 unfold Zp.g
 generalize hf3 : Zp.F = f3
 unfold Zl.g
 generalize hf4 : Zl.F = f4
 unfold Zs.g
 generalize hf5 : Zs.F = f5
 (try cbv)
 repeat' (apply And.intro <;> (try intro h) <;> (try cbv))
 all_goals (subst hv hO; subst hf0; subst hf1; subst hf2; subst hf3; subst hf4; subst hf5; (try dsimp only [std] at *); (try simp only [nt_] at *)) <;> first | rfl | (simp only [Za.F, Za.f, AV.v, AV.vs, impl_within.tot, Zq.tot, Zr.tot, Zp.tot, Zl.tot, Zs.tot, Za.j3, Za.j2, Za.j1, Za.j0, nv_, reduceIte, Int.reduceEq, Int.reduceLT, Int.reduceLE, Int.reduceBEq, Int.reduceBNe, Int.reduceNeg, Bool.not_true, Bool.not_false, bne_iff_ne, beq_iff_eq, ne_eq, not_false_eq_true, not_true_eq_false, *]; done) | (simp_all (maxSteps := 1000000) [std, Za.F, Za.f, AV.v, AV.vs, impl_within.tot, Zq.tot, Zr.tot, Zp.tot, Zl.tot, Zs.tot, Za.j3, Za.j2, Za.j1, Za.j0] <;> (repeat' split) <;> first | rfl | omega | (simp_all; done) | (simp_all; omega))
theorem Za.walk5 (a0 b0 b1 b2 b4 b5 b6 b7 b8 : Int) (b9 : Bool) : Walk 112 [(82, impl_within.h), (123, Zq.g), (113, Zr.g), (121, Zp.g), (122, Zl.g), (124, Zs.g)] 8 900 [.int a0, .agg [.int b0, .int b1, .int b2, .lit 5, .int b4, .int b5, .int b6, .int b7, .int b8, .bool b9]] ((.tup [.agg [.int (Za.F a0 b0 b1 b2 5 b4 b5 b6 b7 b8 b9).1, .int (Za.F a0 b0 b1 b2 5 b4 b5 b6 b7 b8 b9).2.1, .int (Za.F a0 b0 b1 b2 5 b4 b5 b6 b7 b8 b9).2.2.1, .int (Za.F a0 b0 b1 b2 5 b4 b5 b6 b7 b8 b9).2.2.2.1], .bool (Za.F a0 b0 b1 b2 5 b4 b5 b6 b7 b8 b9).2.2.2.2] : AV).v R0) := by
 have e13 : impl_within.F 5 1 3 = false := by rw [impl_within.val]; rfl
 have e46 : impl_within.F 5 4 6 = true := by rw [impl_within.val]; rfl
 refine w1 fun v O hv hO => ⟨_, _, Tryz.func112, rfl, by kernel_rfl, Nat.le_of_ble_eq_true rfl, ?_⟩
 unfold impl_within.h impl_within.g
 generalize hf0 : impl_within.F = f0 at e13 e46
 unfold Zq.g
 generalize hf1 : Zq.F = f1
 unfold Zr.g
 generalize hf2 : Zr.F = f2
 unfold Zp.g
 generalize hf3 : Zp.F = f3
 unfold Zl.g
 generalize hf4 : Zl.F = f4
 unfold Zs.g
 generalize hf5 : Zs.F = f5
 (try cbv)
 repeat' (apply And.intro <;> (try intro h) <;> (try cbv))
 all_goals (subst hv hO; subst hf0; subst hf1; subst hf2; subst hf3; subst hf4; subst hf5; (try dsimp only [std] at *); (try simp only [nt_] at *)) <;> first | rfl | (simp only [Za.F, Za.f, AV.v, AV.vs, impl_within.tot, Zq.tot, Zr.tot, Zp.tot, Zl.tot, Zs.tot, Za.j3, Za.j2, Za.j1, Za.j0, nv_, reduceIte, Int.reduceEq, Int.reduceLT, Int.reduceLE, Int.reduceBEq, Int.reduceBNe, Int.reduceNeg, Bool.not_true, Bool.not_false, bne_iff_ne, beq_iff_eq, ne_eq, not_false_eq_true, not_true_eq_false, *]; done) | (simp_all (maxSteps := 1000000) [std, Za.F, Za.f, AV.v, AV.vs, impl_within.tot, Zq.tot, Zr.tot, Zp.tot, Zl.tot, Zs.tot, Za.j3, Za.j2, Za.j1, Za.j0] <;> (repeat' split) <;> first | rfl | omega | (simp_all; done) | (simp_all; omega))
theorem Za.walk6 (a0 b0 b1 b2 b4 b5 b6 b7 b8 : Int) (b9 : Bool) : Walk 112 [(82, impl_within.h), (123, Zq.g), (113, Zr.g), (121, Zp.g), (122, Zl.g), (124, Zs.g)] 8 900 [.int a0, .agg [.int b0, .int b1, .int b2, .lit 6, .int b4, .int b5, .int b6, .int b7, .int b8, .bool b9]] ((.tup [.agg [.int (Za.F a0 b0 b1 b2 6 b4 b5 b6 b7 b8 b9).1, .int (Za.F a0 b0 b1 b2 6 b4 b5 b6 b7 b8 b9).2.1, .int (Za.F a0 b0 b1 b2 6 b4 b5 b6 b7 b8 b9).2.2.1, .int (Za.F a0 b0 b1 b2 6 b4 b5 b6 b7 b8 b9).2.2.2.1], .bool (Za.F a0 b0 b1 b2 6 b4 b5 b6 b7 b8 b9).2.2.2.2] : AV).v R0) := by
 have e13 : impl_within.F 6 1 3 = false := by rw [impl_within.val]; rfl
 have e46 : impl_within.F 6 4 6 = true := by rw [impl_within.val]; rfl
 refine w1 fun v O hv hO => ⟨_, _, Tryz.func112, rfl, by kernel_rfl, Nat.le_of_ble_eq_true rfl, ?_⟩
 unfold impl_within.h impl_within.g
 generalize hf0 : impl_within.F = f0 at e13 e46
 unfold Zq.g
 generalize hf1 : Zq.F = f1
 unfold Zr.g
 generalize hf2 : Zr.F = f2
 unfold Zp.g
 generalize hf3 : Zp.F = f3
 unfold Zl.g
 generalize hf4 : Zl.F = f4
 unfold Zs.g
 generalize hf5 : Zs.F = f5
 (try cbv)
 repeat' (apply And.intro <;> (try intro h) <;> (try cbv))
 all_goals (subst hv hO; subst hf0; subst hf1; subst hf2; subst hf3; subst hf4; subst hf5; (try dsimp only [std] at *); (try simp only [nt_] at *)) <;> first | rfl | (simp only [Za.F, Za.f, AV.v, AV.vs, impl_within.tot, Zq.tot, Zr.tot, Zp.tot, Zl.tot, Zs.tot, Za.j3, Za.j2, Za.j1, Za.j0, nv_, reduceIte, Int.reduceEq, Int.reduceLT, Int.reduceLE, Int.reduceBEq, Int.reduceBNe, Int.reduceNeg, Bool.not_true, Bool.not_false, bne_iff_ne, beq_iff_eq, ne_eq, not_false_eq_true, not_true_eq_false, *]; done) | (simp_all (maxSteps := 1000000) [std, Za.F, Za.f, AV.v, AV.vs, impl_within.tot, Zq.tot, Zr.tot, Zp.tot, Zl.tot, Zs.tot, Za.j3, Za.j2, Za.j1, Za.j0] <;> (repeat' split) <;> first | rfl | omega | (simp_all; done) | (simp_all; omega))
theorem Za.walk7 (a0 b0 b1 b2 b4 b5 b6 b7 b8 : Int) (b9 : Bool) : Walk 112 [(82, impl_within.h), (123, Zq.g), (113, Zr.g), (121, Zp.g), (122, Zl.g), (124, Zs.g)] 8 900 [.int a0, .agg [.int b0, .int b1, .int b2, .lit 7, .int b4, .int b5, .int b6, .int b7, .int b8, .bool b9]] ((.tup [.agg [.int (Za.F a0 b0 b1 b2 7 b4 b5 b6 b7 b8 b9).1, .int (Za.F a0 b0 b1 b2 7 b4 b5 b6 b7 b8 b9).2.1, .int (Za.F a0 b0 b1 b2 7 b4 b5 b6 b7 b8 b9).2.2.1, .int (Za.F a0 b0 b1 b2 7 b4 b5 b6 b7 b8 b9).2.2.2.1], .bool (Za.F a0 b0 b1 b2 7 b4 b5 b6 b7 b8 b9).2.2.2.2] : AV).v R0) := by
 have e13 : impl_within.F 7 1 3 = false := by rw [impl_within.val]; rfl
 have e46 : impl_within.F 7 4 6 = false := by rw [impl_within.val]; rfl
 refine w1 fun v O hv hO => ⟨_, _, Tryz.func112, rfl, by kernel_rfl, Nat.le_of_ble_eq_true rfl, ?_⟩
 unfold impl_within.h impl_within.g
 generalize hf0 : impl_within.F = f0 at e13 e46
 unfold Zq.g
 generalize hf1 : Zq.F = f1
 unfold Zr.g
 generalize hf2 : Zr.F = f2
 unfold Zp.g
 generalize hf3 : Zp.F = f3
 unfold Zl.g
 generalize hf4 : Zl.F = f4
 unfold Zs.g
 generalize hf5 : Zs.F = f5
 (try cbv)
 repeat' (apply And.intro <;> (try intro h) <;> (try cbv))
 all_goals (subst hv hO; subst hf0; subst hf1; subst hf2; subst hf3; subst hf4; subst hf5; (try dsimp only [std] at *); (try simp only [nt_] at *)) <;> first | rfl | (simp only [Za.F, Za.f, AV.v, AV.vs, impl_within.tot, Zq.tot, Zr.tot, Zp.tot, Zl.tot, Zs.tot, Za.j3, Za.j2, Za.j1, Za.j0, nv_, reduceIte, Int.reduceEq, Int.reduceLT, Int.reduceLE, Int.reduceBEq, Int.reduceBNe, Int.reduceNeg, Bool.not_true, Bool.not_false, bne_iff_ne, beq_iff_eq, ne_eq, not_false_eq_true, not_true_eq_false, *]; done) | (simp_all (maxSteps := 1000000) [std, Za.F, Za.f, AV.v, AV.vs, impl_within.tot, Zq.tot, Zr.tot, Zp.tot, Zl.tot, Zs.tot, Za.j3, Za.j2, Za.j1, Za.j0] <;> (repeat' split) <;> first | rfl | omega | (simp_all; done) | (simp_all; omega))
theorem Za.walkE (a0 b0 b1 b2 b3 b4 b5 b6 b7 b8 : Int) (b9 : Bool) (hp : ¬ (0 ≤ b3 ∧ b3 ≤ 7)) : Walk 112 [(82, impl_within.h), (123, Zq.g), (113, Zr.g), (121, Zp.g), (122, Zl.g), (124, Zs.g)] 8 900 [.int a0, .agg [.int b0, .int b1, .int b2, .int b3, .int b4, .int b5, .int b6, .int b7, .int b8, .bool b9]] ((.tup [.agg [.int (Za.F a0 b0 b1 b2 b3 b4 b5 b6 b7 b8 b9).1, .int (Za.F a0 b0 b1 b2 b3 b4 b5 b6 b7 b8 b9).2.1, .int (Za.F a0 b0 b1 b2 b3 b4 b5 b6 b7 b8 b9).2.2.1, .int (Za.F a0 b0 b1 b2 b3 b4 b5 b6 b7 b8 b9).2.2.2.1], .bool (Za.F a0 b0 b1 b2 b3 b4 b5 b6 b7 b8 b9).2.2.2.2] : AV).v R0) := by
 refine w1 fun v O hv hO => ⟨_, _, Tryz.func112, rfl, by kernel_rfl, Nat.le_of_ble_eq_true rfl, ?_⟩
 unfold impl_within.h impl_within.g
 generalize hf0 : impl_within.F = f0
 unfold Zq.g
 generalize hf1 : Zq.F = f1
 unfold Zr.g
 generalize hf2 : Zr.F = f2
 unfold Zp.g
 generalize hf3 : Zp.F = f3
 unfold Zl.g
 generalize hf4 : Zl.F = f4
 unfold Zs.g
 generalize hf5 : Zs.F = f5
 have hno : O.not (f3 b0 b3) ≠ false := by
  intro h
  rw [hO] at h
  exact hp (Zp.pc b0 b3 (by rw [hf3]; simpa [std] using h))
 (try cbv)
 repeat' (apply And.intro <;> (try intro h) <;> first | exact absurd h hno | (try cbv))
 all_goals (subst hv hO; subst hf0; subst hf1; subst hf2; subst hf3; subst hf4; subst hf5; (try dsimp only [std] at *); (try simp only [nt_] at *)) <;> first | rfl | (simp only [Za.F, Za.f, AV.v, AV.vs, impl_within.tot, Zq.tot, Zr.tot, Zp.tot, Zl.tot, Zs.tot, Za.j3, Za.j2, Za.j1, Za.j0, nv_, reduceIte, Bool.not_true, Bool.not_false, *]; done) | (simp_all (maxSteps := 1000000) [std, Za.F, Za.f, AV.v, AV.vs, impl_within.tot, Zq.tot, Zr.tot, Zp.tot, Zl.tot, Zs.tot, Za.j3, Za.j2, Za.j1, Za.j0] <;> (repeat' split) <;> first | rfl | omega | (simp_all; done) | (simp_all; omega))
theorem Za.all (a0 b0 b1 b2 b3 b4 b5 b6 b7 b8 : Int) (b9 : Bool) (w : World) : Calls Tryz.prog 112 (AV.vs R0 [.int a0, .agg [.int b0, .int b1, .int b2, .int b3, .int b4, .int b5, .int b6, .int b7, .int b8, .bool b9]]).toArray w fun e w' => e = .returned ((.tup [.agg [.int (Za.F a0 b0 b1 b2 b3 b4 b5 b6 b7 b8 b9).1, .int (Za.F a0 b0 b1 b2 b3 b4 b5 b6 b7 b8 b9).2.1, .int (Za.F a0 b0 b1 b2 b3 b4 b5 b6 b7 b8 b9).2.2.1, .int (Za.F a0 b0 b1 b2 b3 b4 b5 b6 b7 b8 b9).2.2.2.1], .bool (Za.F a0 b0 b1 b2 b3 b4 b5 b6 b7 b8 b9).2.2.2.2] : AV).v R0) ∧ Below w.heap.size w w' := by
 by_cases hp : 0 ≤ b3 ∧ b3 ≤ 7
 ·obtain h | h | h | h | h | h | h | h : b3 = 0 ∨ b3 = 1 ∨ b3 = 2 ∨ b3 = 3 ∨ b3 = 4 ∨ b3 = 5 ∨ b3 = 6 ∨ b3 = 7 := by omega
  ·subst h; exact (Za.walk0 a0 b0 b1 b2 b4 b5 b6 b7 b8 b9).calls (all_cons impl_within.hfn (all_cons Zq.fn (all_cons Zr.fn (all_cons Zp.fn (all_cons Zl.fn (all_cons Zs.fn ZW)))))) w
  ·subst h; exact (Za.walk1 a0 b0 b1 b2 b4 b5 b6 b7 b8 b9).calls (all_cons impl_within.hfn (all_cons Zq.fn (all_cons Zr.fn (all_cons Zp.fn (all_cons Zl.fn (all_cons Zs.fn ZW)))))) w
  ·subst h; exact (Za.walk2 a0 b0 b1 b2 b4 b5 b6 b7 b8 b9).calls (all_cons impl_within.hfn (all_cons Zq.fn (all_cons Zr.fn (all_cons Zp.fn (all_cons Zl.fn (all_cons Zs.fn ZW)))))) w
  ·subst h; exact (Za.walk3 a0 b0 b1 b2 b4 b5 b6 b7 b8 b9).calls (all_cons impl_within.hfn (all_cons Zq.fn (all_cons Zr.fn (all_cons Zp.fn (all_cons Zl.fn (all_cons Zs.fn ZW)))))) w
  ·subst h; exact (Za.walk4 a0 b0 b1 b2 b4 b5 b6 b7 b8 b9).calls (all_cons impl_within.hfn (all_cons Zq.fn (all_cons Zr.fn (all_cons Zp.fn (all_cons Zl.fn (all_cons Zs.fn ZW)))))) w
  ·subst h; exact (Za.walk5 a0 b0 b1 b2 b4 b5 b6 b7 b8 b9).calls (all_cons impl_within.hfn (all_cons Zq.fn (all_cons Zr.fn (all_cons Zp.fn (all_cons Zl.fn (all_cons Zs.fn ZW)))))) w
  ·subst h; exact (Za.walk6 a0 b0 b1 b2 b4 b5 b6 b7 b8 b9).calls (all_cons impl_within.hfn (all_cons Zq.fn (all_cons Zr.fn (all_cons Zp.fn (all_cons Zl.fn (all_cons Zs.fn ZW)))))) w
  ·subst h; exact (Za.walk7 a0 b0 b1 b2 b4 b5 b6 b7 b8 b9).calls (all_cons impl_within.hfn (all_cons Zq.fn (all_cons Zr.fn (all_cons Zp.fn (all_cons Zl.fn (all_cons Zs.fn ZW)))))) w
 ·exact (Za.walkE a0 b0 b1 b2 b3 b4 b5 b6 b7 b8 b9 hp).calls (all_cons impl_within.hfn (all_cons Zq.fn (all_cons Zr.fn (all_cons Zp.fn (all_cons Zl.fn (all_cons Zs.fn ZW)))))) w
theorem Za.fn : Fn 112 Za.g := by
 refine ⟨⟨_, Tryz.func112, rfl, rfl⟩, fun R l v hg w => ?_⟩
 unfold Za.g at hg
 split at hg
 ·rename_i x0 x1
  obtain ⟨c0, e0, hg⟩ := Option.bind_eq_some_iff.1 hg
  obtain ⟨c1, e1, hg⟩ := Option.bind_eq_some_iff.1 hg
  injection hg with hg
  subst hg
  have := Za.all c0 c1.f0 c1.f1 c1.f2 c1.f3 c1.f4 c1.f5 c1.f6 c1.f7 c1.f8 c1.f9 w
  simpa only [AV.vs, AV.v, clA, i1_v R e0, dC_v R e1] using this
 ·cases hg
end Go.Proofs.YtgghglocfdcegaaGreat.Xec
