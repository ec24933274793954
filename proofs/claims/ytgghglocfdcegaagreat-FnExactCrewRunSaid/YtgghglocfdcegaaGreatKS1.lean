/- Part S1 of the proof of FnExactCrewStep and FnExactCrewRun (wip/xec, pack.py). No condition. -/
import Derived.Test.YtgghglocfdcegaaGreatKE
namespace Go.Proofs.YtgghglocfdcegaaGreat.Xec
open Go Go.RowKit Go.Proofs.YtgghglocfdcegaaGreat.PFnExactCrewRun Go.Proofs.YtgghglocfdcegaaGreatW.PrintWords
set_option linter.unusedVariables false
set_option linter.unusedSimpArgs false
set_option maxRecDepth 100000
set_option maxHeartbeats 16000000
def Zo.j3 (x7 x9 a2 a5 a6 a1 a7 a4 a3 a8 a9 : Int) (c2 : Bool) : Option (TA) := (Zan.f x7).bind fun d1 => ((Zat.f d1 x9).bind fun c9 => (if c9.2 = true then ((ZW.f 0 a3 c9.1).bind fun c3 => (some (c3.1, c3.2.1, c3.2.2.1, c3.2.2.2.1, c3.2.2.2.2))) else (some (0, 0, 0, 0, false))))
def Zo.j2 (x6 x7 x8 : Int) (x72 : Bool) (a2 a5 a6 a1 a7 a4 a3 a8 a9 : Int) (c2 : Bool) : Option (TA) := if x72 = true then ((ZP.f (wrap64 (1 + x6)) x8).bind fun c4 => (some (c4.1, c4.2.1, c4.2.2.1, c4.2.2.2.1, c4.2.2.2.2))) else (if a1 = 1 then ((ZQ.f (wrap64 (1 + x6))).bind fun c5 => (some (c5.1, c5.2.1, c5.2.2.1, c5.2.2.2.1, c5.2.2.2.2))) else (if a2 = 1 then (Zo.j3 x7 (wrap64 (x6 + 1)) a2 a5 a6 a1 a7 a4 a3 a8 a9 c2) else (Zo.j3 x7 a4 a2 a5 a6 a1 a7 a4 a3 a8 a9 c2)))
def Zo.j1 (x0 x6 : Int) (x49 : Bool) (a2 a5 a6 a1 a7 a4 a3 a8 a9 : Int) (c2 : Bool) : Option (TA) := if x49 = true then ((ZQ.f 0).bind fun c6 => (some (c6.1, c6.2.1, c6.2.2.1, c6.2.2.2.1, c6.2.2.2.2))) else ((Zy.f x6 0 (wrap64 (x0 - 1))).bind fun d2 => (if d2 = true then ((Zt.f a3).bind fun c8 => (if a1 = 0 then ((ZQ.f 0).bind fun c7 => (some (c7.1, c7.2.1, c7.2.2.1, c7.2.2.2.1, c7.2.2.2.2))) else (if a1 = 1 then (Zo.j2 x6 c8.1 c8.2 (a2 == 1) a2 a5 a6 a1 a7 a4 a3 a8 a9 c2) else (Zo.j2 x6 c8.1 c8.2 false a2 a5 a6 a1 a7 a4 a3 a8 a9 c2)))) else (some (0, 0, 0, 0, false))))
def Zo.j0 (x0 : Int) (x38 : Bool) (a2 a5 a6 a1 a7 a4 a3 a8 a9 : Int) (c2 : Bool) : Option (TA) := if x38 = true then (some (0, 0, 0, 0, false)) else ((Zx.f a2 a5 a6 a1 a7 a4 a3 a8 a9 c2).bind fun d0 => (if a2 = 2 then (Zo.j1 x0 d0 (a1 == 0) a2 a5 a6 a1 a7 a4 a3 a8 a9 c2) else (Zo.j1 x0 d0 false a2 a5 a6 a1 a7 a4 a3 a8 a9 c2)))
def Zo.f (a0 b0 b1 b2 b3 b4 b5 b6 b7 b8 : Int) (b9 : Bool) : Option (TA) := if b9 = true then (Zo.j0 a0 true b0 b1 b2 b3 b4 b5 b6 b7 b8 b9) else ((ZR.f a0).bind fun d3 => (if d3 = true then (if b0 < 1 then (Zo.j0 a0 true b0 b1 b2 b3 b4 b5 b6 b7 b8 b9) else (if b0 > 2 then (Zo.j0 a0 true b0 b1 b2 b3 b4 b5 b6 b7 b8 b9) else (if b3 < 0 then (Zo.j0 a0 true b0 b1 b2 b3 b4 b5 b6 b7 b8 b9) else (Zo.j0 a0 (decide (b3 > 2)) b0 b1 b2 b3 b4 b5 b6 b7 b8 b9)))) else (Zo.j0 a0 true b0 b1 b2 b3 b4 b5 b6 b7 b8 b9)))
def Zo.F (a0 b0 b1 b2 b3 b4 b5 b6 b7 b8 : Int) (b9 : Bool) : TA := (Zo.f a0 b0 b1 b2 b3 b4 b5 b6 b7 b8 b9).getD (0, 0, 0, 0, false)
theorem Zo.j3.isS (x7 x9 a2 a5 a6 a1 a7 a4 a3 a8 a9 : Int) (c2 : Bool) : ∃ r, Zo.j3 x7 x9 a2 a5 a6 a1 a7 a4 a3 a8 a9 c2 = some r := by
 unfold Zo.j3
 (try simp only [ZR.tot, Zy.tot, Zt.tot, Zx.tot, ZQ.tot, ZP.tot, Zat.tot, Zan.tot, ZW.tot, Option.bind_some])
 repeat' (first | exact ⟨_, rfl⟩ | (exfalso; omega) | split)
theorem Zo.j2.isS (x6 x7 x8 : Int) (x72 : Bool) (a2 a5 a6 a1 a7 a4 a3 a8 a9 : Int) (c2 : Bool) : ∃ r, Zo.j2 x6 x7 x8 x72 a2 a5 a6 a1 a7 a4 a3 a8 a9 c2 = some r := by
 unfold Zo.j2
 (try simp only [ZR.tot, Zy.tot, Zt.tot, Zx.tot, ZQ.tot, ZP.tot, Zat.tot, Zan.tot, ZW.tot, Option.bind_some])
 repeat' (first | exact ⟨_, rfl⟩ | exact Zo.j3.isS .. | (exfalso; omega) | split)
theorem Zo.j1.isS (x0 x6 : Int) (x49 : Bool) (a2 a5 a6 a1 a7 a4 a3 a8 a9 : Int) (c2 : Bool) : ∃ r, Zo.j1 x0 x6 x49 a2 a5 a6 a1 a7 a4 a3 a8 a9 c2 = some r := by
 unfold Zo.j1
 (try simp only [ZR.tot, Zy.tot, Zt.tot, Zx.tot, ZQ.tot, ZP.tot, Zat.tot, Zan.tot, ZW.tot, Option.bind_some])
 repeat' (first | exact ⟨_, rfl⟩ | exact Zo.j3.isS .. | exact Zo.j2.isS .. | (exfalso; omega) | split)
theorem Zo.j0.isS (x0 : Int) (x38 : Bool) (a2 a5 a6 a1 a7 a4 a3 a8 a9 : Int) (c2 : Bool) : ∃ r, Zo.j0 x0 x38 a2 a5 a6 a1 a7 a4 a3 a8 a9 c2 = some r := by
 unfold Zo.j0
 (try simp only [ZR.tot, Zy.tot, Zt.tot, Zx.tot, ZQ.tot, ZP.tot, Zat.tot, Zan.tot, ZW.tot, Option.bind_some])
 repeat' (first | exact ⟨_, rfl⟩ | exact Zo.j3.isS .. | exact Zo.j2.isS .. | exact Zo.j1.isS .. | (exfalso; omega) | split)
theorem Zo.f.isS (a0 b0 b1 b2 b3 b4 b5 b6 b7 b8 : Int) (b9 : Bool) : ∃ r, Zo.f a0 b0 b1 b2 b3 b4 b5 b6 b7 b8 b9 = some r := by
 unfold Zo.f
 (try simp only [ZR.tot, Zy.tot, Zt.tot, Zx.tot, ZQ.tot, ZP.tot, Zat.tot, Zan.tot, ZW.tot, Option.bind_some])
 repeat' (first | exact ⟨_, rfl⟩ | exact Zo.j3.isS .. | exact Zo.j2.isS .. | exact Zo.j1.isS .. | exact Zo.j0.isS .. | (exfalso; omega) | split)
theorem Zo.tot (a0 b0 b1 b2 b3 b4 b5 b6 b7 b8 : Int) (b9 : Bool) : Zo.f a0 b0 b1 b2 b3 b4 b5 b6 b7 b8 b9 = some (Zo.F a0 b0 b1 b2 b3 b4 b5 b6 b7 b8 b9) := by
 obtain ⟨r, h⟩ := Zo.f.isS a0 b0 b1 b2 b3 b4 b5 b6 b7 b8 b9
 unfold Zo.F
 rw [h]
 rfl
def Zo.g : List AV → Option AV
 | [x0, x1] => (i1 x0).bind fun c0 => (dC x1).bind fun c1 => some (.tup [.agg [.int (Zo.F c0 c1.f0 c1.f1 c1.f2 c1.f3 c1.f4 c1.f5 c1.f6 c1.f7 c1.f8 c1.f9).1, .int (Zo.F c0 c1.f0 c1.f1 c1.f2 c1.f3 c1.f4 c1.f5 c1.f6 c1.f7 c1.f8 c1.f9).2.1, .int (Zo.F c0 c1.f0 c1.f1 c1.f2 c1.f3 c1.f4 c1.f5 c1.f6 c1.f7 c1.f8 c1.f9).2.2.1, .int (Zo.F c0 c1.f0 c1.f1 c1.f2 c1.f3 c1.f4 c1.f5 c1.f6 c1.f7 c1.f8 c1.f9).2.2.2.1], .bool (Zo.F c0 c1.f0 c1.f1 c1.f2 c1.f3 c1.f4 c1.f5 c1.f6 c1.f7 c1.f8 c1.f9).2.2.2.2])
 | _ => none
theorem Zo.walk (a0 b0 b1 b2 b3 b4 b5 b6 b7 b8 : Int) (b9 : Bool) : Walk 64 [(38, ZR.g), (68, Zy.g), (67, Zt.g), (69, Zx.g), (91, ZQ.g), (92, ZP.g), (93, Zat.g), (94, Zan.g), (95, ZW.g)] 7 900 [.int a0, .agg [.int b0, .int b1, .int b2, .int b3, .int b4, .int b5, .int b6, .int b7, .int b8, .bool b9]] ((.tup [.agg [.int (Zo.F a0 b0 b1 b2 b3 b4 b5 b6 b7 b8 b9).1, .int (Zo.F a0 b0 b1 b2 b3 b4 b5 b6 b7 b8 b9).2.1, .int (Zo.F a0 b0 b1 b2 b3 b4 b5 b6 b7 b8 b9).2.2.1, .int (Zo.F a0 b0 b1 b2 b3 b4 b5 b6 b7 b8 b9).2.2.2.1], .bool (Zo.F a0 b0 b1 b2 b3 b4 b5 b6 b7 b8 b9).2.2.2.2] : AV).v R0) := by
 refine w1 fun v O hv hO => ⟨_, _, Tryz.func64, rfl, by kernel_rfl, Nat.le_of_ble_eq_true rfl, ?_⟩
 unfold ZR.g
 generalize hf0 : ZR.F = f0
 unfold Zy.g
 generalize hf1 : Zy.F = f1
 unfold Zt.g
 generalize hf2 : Zt.F = f2
 unfold Zx.g
 generalize hf3 : Zx.F = f3
 unfold ZQ.g
 generalize hf4 : ZQ.F = f4
 unfold ZP.g
 generalize hf5 : ZP.F = f5
 unfold Zat.g
 generalize hf6 : Zat.F = f6
 unfold Zan.g
 generalize hf7 : Zan.F = f7
 unfold ZW.g
 generalize hf8 : ZW.F = f8
 (try cbv)
 repeat' (apply And.intro <;> (try intro h) <;> (try cbv))
 all_goals (subst hv hO; subst hf0; subst hf1; subst hf2; subst hf3; subst hf4; subst hf5; subst hf6; subst hf7; subst hf8; (try dsimp only [std] at *); (try simp only [nt_] at *)) <;> first | rfl | (simp only [Zo.F, Zo.f, AV.v, AV.vs, ZR.tot, Zy.tot, Zt.tot, Zx.tot, ZQ.tot, ZP.tot, Zat.tot, Zan.tot, ZW.tot, Zo.j3, Zo.j2, Zo.j1, Zo.j0, nv_, reduceIte, *]; done) | (simp_all (maxSteps := 1000000) [std, Zo.F, Zo.f, AV.v, AV.vs, ZR.tot, Zy.tot, Zt.tot, Zx.tot, ZQ.tot, ZP.tot, Zat.tot, Zan.tot, ZW.tot, Zo.j3, Zo.j2, Zo.j1, Zo.j0] <;> (repeat' split) <;> first | rfl | omega | (simp_all; done) | (simp_all; omega))
theorem Zo.fn : Fn 64 Zo.g := by
 refine ⟨⟨_, Tryz.func64, rfl, rfl⟩, fun R l v hg w => ?_⟩
 unfold Zo.g at hg
 split at hg
 ·rename_i x0 x1
  obtain ⟨c0, e0, hg⟩ := Option.bind_eq_some_iff.1 hg
  obtain ⟨c1, e1, hg⟩ := Option.bind_eq_some_iff.1 hg
  injection hg with hg
  subst hg
  have := (Zo.walk c0 c1.f0 c1.f1 c1.f2 c1.f3 c1.f4 c1.f5 c1.f6 c1.f7 c1.f8 c1.f9).calls (all_cons ZR.fn (all_cons Zy.fn (all_cons Zt.fn (all_cons Zx.fn (all_cons ZQ.fn (all_cons ZP.fn (all_cons Zat.fn (all_cons Zan.fn (all_cons ZW.fn ZX))))))))) w
  simpa only [AV.vs, AV.v, clA, i1_v R e0, dC_v R e1] using this
 ·cases hg
def Zs.j3 (x0 x6 x43 : Int) (x61 : Bool) (a2 a4 a5 a3 a1 a6 a7 a8 a9 : Int) (c2 : Bool) : Option (TA) := if x61 = true then ((ZW.f x6 a1 (wrap64 (a1 + 1))).bind fun c3 => (some (c3.1, c3.2.1, c3.2.2.1, c3.2.2.2.1, c3.2.2.2.2))) else (if x43 = 13 then ((Zap.f x0 a1).bind fun d0 => ((ZP.f (wrap64 (d0 + 1)) a4).bind fun c4 => (some (c4.1, c4.2.1, c4.2.2.1, c4.2.2.2.1, c4.2.2.2.2)))) else (if x43 = 23 then ((Zap.f x0 a1).bind fun d1 => ((ZQ.f (wrap64 (d1 + 1))).bind fun c5 => (some (c5.1, c5.2.1, c5.2.2.1, c5.2.2.2.1, c5.2.2.2.2)))) else (if x43 = 14 then ((Zap.f x0 a1).bind fun d2 => ((ZP.f d2 (wrap64 (a1 + 1))).bind fun c6 => (some (c6.1, c6.2.1, c6.2.2.1, c6.2.2.2.1, c6.2.2.2.2)))) else ((Zap.f x0 a1).bind fun d3 => ((ZP.f d3 (wrap64 (a1 + x0))).bind fun c7 => (some (c7.1, c7.2.1, c7.2.2.1, c7.2.2.2.1, c7.2.2.2.2)))))))
def Zs.j2 (x0 x6 x43 : Int) (x51 : Bool) (a2 a4 a5 a3 a1 a6 a7 a8 a9 : Int) (c2 : Bool) : Option (TA) := if x51 = true then ((Zap.f x0 a1).bind fun d4 => ((ZQ.f d4).bind fun c8 => (some (c8.1, c8.2.1, c8.2.2.1, c8.2.2.2.1, c8.2.2.2.2)))) else (if x43 = 12 then (Zs.j3 x0 x6 x43 (x43 == 12) a2 a4 a5 a3 a1 a6 a7 a8 a9 c2) else (Zs.j3 x0 x6 x43 (x43 == 22) a2 a4 a5 a3 a1 a6 a7 a8 a9 c2))
def Zs.j1 (x0 x6 x43 : Int) (x44 : Bool) (a2 a4 a5 a3 a1 a6 a7 a8 a9 : Int) (c2 : Bool) : Option (TA) := if x44 = true then ((ZQ.f x6).bind fun c9 => (some (c9.1, c9.2.1, c9.2.2.1, c9.2.2.2.1, c9.2.2.2.2))) else (if x43 = 11 then (Zs.j2 x0 x6 x43 (x43 == 11) a2 a4 a5 a3 a1 a6 a7 a8 a9 c2) else (Zs.j2 x0 x6 x43 (x43 == 21) a2 a4 a5 a3 a1 a6 a7 a8 a9 c2))
def Zs.j0 (x0 : Int) (x33 : Bool) (a2 a4 a5 a3 a1 a6 a7 a8 a9 : Int) (c2 : Bool) : Option (TA) := if x33 = true then (some (0, 0, 0, 0, false)) else (if (wrap64 ((wrap64 (10 * a2)) + a3)) = 10 then (Zs.j1 x0 (wrap64 (a2 - 1)) (wrap64 ((wrap64 (10 * a2)) + a3)) ((wrap64 ((wrap64 (10 * a2)) + a3)) == 10) a2 a4 a5 a3 a1 a6 a7 a8 a9 c2) else (Zs.j1 x0 (wrap64 (a2 - 1)) (wrap64 ((wrap64 (10 * a2)) + a3)) ((wrap64 ((wrap64 (10 * a2)) + a3)) == 20) a2 a4 a5 a3 a1 a6 a7 a8 a9 c2))
def Zs.f (a0 b0 b1 b2 b3 b4 b5 b6 b7 b8 : Int) (b9 : Bool) : Option (TA) := if b9 = true then (Zs.j0 a0 true b0 b1 b2 b3 b4 b5 b6 b7 b8 b9) else ((Zaj.f a0).bind fun d5 => (if d5 = true then (if b0 < 1 then (Zs.j0 a0 true b0 b1 b2 b3 b4 b5 b6 b7 b8 b9) else (if b0 > 2 then (Zs.j0 a0 true b0 b1 b2 b3 b4 b5 b6 b7 b8 b9) else (if b3 < 0 then (Zs.j0 a0 true b0 b1 b2 b3 b4 b5 b6 b7 b8 b9) else (Zs.j0 a0 (decide (b3 > 4)) b0 b1 b2 b3 b4 b5 b6 b7 b8 b9)))) else (Zs.j0 a0 true b0 b1 b2 b3 b4 b5 b6 b7 b8 b9)))
def Zs.F (a0 b0 b1 b2 b3 b4 b5 b6 b7 b8 : Int) (b9 : Bool) : TA := (Zs.f a0 b0 b1 b2 b3 b4 b5 b6 b7 b8 b9).getD (0, 0, 0, 0, false)
theorem Zs.j3.isS (x0 x6 x43 : Int) (x61 : Bool) (a2 a4 a5 a3 a1 a6 a7 a8 a9 : Int) (c2 : Bool) : ∃ r, Zs.j3 x0 x6 x43 x61 a2 a4 a5 a3 a1 a6 a7 a8 a9 c2 = some r := by
 unfold Zs.j3
 (try simp only [ZQ.tot, ZP.tot, ZW.tot, Zaj.tot, Zap.tot, Option.bind_some])
 repeat' (first | exact ⟨_, rfl⟩ | (exfalso; omega) | split)
theorem Zs.j2.isS (x0 x6 x43 : Int) (x51 : Bool) (a2 a4 a5 a3 a1 a6 a7 a8 a9 : Int) (c2 : Bool) : ∃ r, Zs.j2 x0 x6 x43 x51 a2 a4 a5 a3 a1 a6 a7 a8 a9 c2 = some r := by
 unfold Zs.j2
 (try simp only [ZQ.tot, ZP.tot, ZW.tot, Zaj.tot, Zap.tot, Option.bind_some])
 repeat' (first | exact ⟨_, rfl⟩ | exact Zs.j3.isS .. | (exfalso; omega) | split)
theorem Zs.j1.isS (x0 x6 x43 : Int) (x44 : Bool) (a2 a4 a5 a3 a1 a6 a7 a8 a9 : Int) (c2 : Bool) : ∃ r, Zs.j1 x0 x6 x43 x44 a2 a4 a5 a3 a1 a6 a7 a8 a9 c2 = some r := by
 unfold Zs.j1
 (try simp only [ZQ.tot, ZP.tot, ZW.tot, Zaj.tot, Zap.tot, Option.bind_some])
 repeat' (first | exact ⟨_, rfl⟩ | exact Zs.j3.isS .. | exact Zs.j2.isS .. | (exfalso; omega) | split)
theorem Zs.j0.isS (x0 : Int) (x33 : Bool) (a2 a4 a5 a3 a1 a6 a7 a8 a9 : Int) (c2 : Bool) : ∃ r, Zs.j0 x0 x33 a2 a4 a5 a3 a1 a6 a7 a8 a9 c2 = some r := by
 unfold Zs.j0
 (try simp only [ZQ.tot, ZP.tot, ZW.tot, Zaj.tot, Zap.tot, Option.bind_some])
 repeat' (first | exact ⟨_, rfl⟩ | exact Zs.j3.isS .. | exact Zs.j2.isS .. | exact Zs.j1.isS .. | (exfalso; omega) | split)
theorem Zs.f.isS (a0 b0 b1 b2 b3 b4 b5 b6 b7 b8 : Int) (b9 : Bool) : ∃ r, Zs.f a0 b0 b1 b2 b3 b4 b5 b6 b7 b8 b9 = some r := by
 unfold Zs.f
 (try simp only [ZQ.tot, ZP.tot, ZW.tot, Zaj.tot, Zap.tot, Option.bind_some])
 repeat' (first | exact ⟨_, rfl⟩ | exact Zs.j3.isS .. | exact Zs.j2.isS .. | exact Zs.j1.isS .. | exact Zs.j0.isS .. | (exfalso; omega) | split)
theorem Zs.tot (a0 b0 b1 b2 b3 b4 b5 b6 b7 b8 : Int) (b9 : Bool) : Zs.f a0 b0 b1 b2 b3 b4 b5 b6 b7 b8 b9 = some (Zs.F a0 b0 b1 b2 b3 b4 b5 b6 b7 b8 b9) := by
 obtain ⟨r, h⟩ := Zs.f.isS a0 b0 b1 b2 b3 b4 b5 b6 b7 b8 b9
 unfold Zs.F
 rw [h]
 rfl
def Zs.g : List AV → Option AV
 | [x0, x1] => (i1 x0).bind fun c0 => (dC x1).bind fun c1 => some (.tup [.agg [.int (Zs.F c0 c1.f0 c1.f1 c1.f2 c1.f3 c1.f4 c1.f5 c1.f6 c1.f7 c1.f8 c1.f9).1, .int (Zs.F c0 c1.f0 c1.f1 c1.f2 c1.f3 c1.f4 c1.f5 c1.f6 c1.f7 c1.f8 c1.f9).2.1, .int (Zs.F c0 c1.f0 c1.f1 c1.f2 c1.f3 c1.f4 c1.f5 c1.f6 c1.f7 c1.f8 c1.f9).2.2.1, .int (Zs.F c0 c1.f0 c1.f1 c1.f2 c1.f3 c1.f4 c1.f5 c1.f6 c1.f7 c1.f8 c1.f9).2.2.2.1], .bool (Zs.F c0 c1.f0 c1.f1 c1.f2 c1.f3 c1.f4 c1.f5 c1.f6 c1.f7 c1.f8 c1.f9).2.2.2.2])
 | _ => none
theorem Zs.walk (a0 b0 b1 b2 b3 b4 b5 b6 b7 b8 : Int) (b9 : Bool) : Walk 70 [(91, ZQ.g), (92, ZP.g), (95, ZW.g), (98, Zaj.g), (99, Zap.g)] 7 900 [.int a0, .agg [.int b0, .int b1, .int b2, .int b3, .int b4, .int b5, .int b6, .int b7, .int b8, .bool b9]] ((.tup [.agg [.int (Zs.F a0 b0 b1 b2 b3 b4 b5 b6 b7 b8 b9).1, .int (Zs.F a0 b0 b1 b2 b3 b4 b5 b6 b7 b8 b9).2.1, .int (Zs.F a0 b0 b1 b2 b3 b4 b5 b6 b7 b8 b9).2.2.1, .int (Zs.F a0 b0 b1 b2 b3 b4 b5 b6 b7 b8 b9).2.2.2.1], .bool (Zs.F a0 b0 b1 b2 b3 b4 b5 b6 b7 b8 b9).2.2.2.2] : AV).v R0) := by
 refine w1 fun v O hv hO => ⟨_, _, Tryz.func70, rfl, by kernel_rfl, Nat.le_of_ble_eq_true rfl, ?_⟩
 unfold ZQ.g
 generalize hf0 : ZQ.F = f0
 unfold ZP.g
 generalize hf1 : ZP.F = f1
 unfold ZW.g
 generalize hf2 : ZW.F = f2
 unfold Zaj.g
 generalize hf3 : Zaj.F = f3
 unfold Zap.g
 generalize hf4 : Zap.F = f4
 (try cbv)
 repeat' (apply And.intro <;> (try intro h) <;> (try cbv))
 all_goals (subst hv hO; subst hf0; subst hf1; subst hf2; subst hf3; subst hf4; (try dsimp only [std] at *); (try simp only [nt_] at *)) <;> first | rfl | (simp only [Zs.F, Zs.f, AV.v, AV.vs, ZQ.tot, ZP.tot, ZW.tot, Zaj.tot, Zap.tot, Zs.j3, Zs.j2, Zs.j1, Zs.j0, nv_, reduceIte, *]; done) | (simp_all (maxSteps := 1000000) [std, Zs.F, Zs.f, AV.v, AV.vs, ZQ.tot, ZP.tot, ZW.tot, Zaj.tot, Zap.tot, Zs.j3, Zs.j2, Zs.j1, Zs.j0] <;> (repeat' split) <;> first | rfl | omega | (simp_all; done) | (simp_all; omega))
theorem Zs.fn : Fn 70 Zs.g := by
 refine ⟨⟨_, Tryz.func70, rfl, rfl⟩, fun R l v hg w => ?_⟩
 unfold Zs.g at hg
 split at hg
 ·rename_i x0 x1
  obtain ⟨c0, e0, hg⟩ := Option.bind_eq_some_iff.1 hg
  obtain ⟨c1, e1, hg⟩ := Option.bind_eq_some_iff.1 hg
  injection hg with hg
  subst hg
  have := (Zs.walk c0 c1.f0 c1.f1 c1.f2 c1.f3 c1.f4 c1.f5 c1.f6 c1.f7 c1.f8 c1.f9).calls (all_cons ZQ.fn (all_cons ZP.fn (all_cons ZW.fn (all_cons Zaj.fn (all_cons Zap.fn ZX))))) w
  simpa only [AV.vs, AV.v, clA, i1_v R e0, dC_v R e1] using this
 ·cases hg
def Zk.j1 (x5 : Int) (x26 : Bool) (a0 a2 a3 c2 a4 a5 a6 a7 a8 : Int) (a9 : Bool) : Option (TC) := if x26 = true then ((Zm.f a0 a2 a3 c2 a4 a5 a6 a7 a8 a9 3).bind fun c3 => (some (c3.1, c3.2.1, c3.2.2.1, c3.2.2.2.1, c3.2.2.2.2.1, c3.2.2.2.2.2.1, c3.2.2.2.2.2.2.1, c3.2.2.2.2.2.2.2.1, c3.2.2.2.2.2.2.2.2.1, c3.2.2.2.2.2.2.2.2.2))) else (if x5 < 0 then ((Zm.f a0 a2 a3 c2 a4 a5 a6 a7 a8 a9 2).bind fun c4 => (some (c4.1, c4.2.1, c4.2.2.1, c4.2.2.2.1, c4.2.2.2.2.1, c4.2.2.2.2.2.1, c4.2.2.2.2.2.2.1, c4.2.2.2.2.2.2.2.1, c4.2.2.2.2.2.2.2.2.1, c4.2.2.2.2.2.2.2.2.2))) else (if x5 > 0 then (some (a0, a2, a3, 0, a4, a5, a6, a7, a8, a9)) else (some (a0, a2, a3, c2, a4, a5, a6, a7, a8, a9))))
def Zk.j0 (x5 a0 a2 a3 c2 a4 a5 a6 a7 a8 : Int) (a9 : Bool) : Option (TC) := if x5 < 0 then (Zk.j1 x5 (a0 == 1) a0 a2 a3 c2 a4 a5 a6 a7 a8 a9) else (Zk.j1 x5 false a0 a2 a3 c2 a4 a5 a6 a7 a8 a9)
def Zk.f (b0 b1 b2 b3 b4 b5 b6 b7 b8 : Int) (b9 : Bool) (a1 : Int) : Option (TC) := if b0 = 2 then (Zk.j0 (wrap64 (a1 - (wrap64 (b4 + 1)))) b0 b1 b2 b3 b4 a1 b6 b7 b8 b9) else (Zk.j0 (wrap64 (a1 - b4)) b0 b1 b2 b3 b4 a1 b6 b7 b8 b9)
def Zk.F (b0 b1 b2 b3 b4 b5 b6 b7 b8 : Int) (b9 : Bool) (a1 : Int) : TC := (Zk.f b0 b1 b2 b3 b4 b5 b6 b7 b8 b9 a1).getD (0, 0, 0, 0, 0, 0, 0, 0, 0, false)
theorem Zk.j1.isS (x5 : Int) (x26 : Bool) (a0 a2 a3 c2 a4 a5 a6 a7 a8 : Int) (a9 : Bool) : ∃ r, Zk.j1 x5 x26 a0 a2 a3 c2 a4 a5 a6 a7 a8 a9 = some r := by
 unfold Zk.j1
 (try simp only [Zm.tot, Option.bind_some])
 repeat' (first | exact ⟨_, rfl⟩ | (exfalso; omega) | split)
theorem Zk.j0.isS (x5 a0 a2 a3 c2 a4 a5 a6 a7 a8 : Int) (a9 : Bool) : ∃ r, Zk.j0 x5 a0 a2 a3 c2 a4 a5 a6 a7 a8 a9 = some r := by
 unfold Zk.j0
 (try simp only [Zm.tot, Option.bind_some])
 repeat' (first | exact ⟨_, rfl⟩ | exact Zk.j1.isS .. | (exfalso; omega) | split)
theorem Zk.f.isS (b0 b1 b2 b3 b4 b5 b6 b7 b8 : Int) (b9 : Bool) (a1 : Int) : ∃ r, Zk.f b0 b1 b2 b3 b4 b5 b6 b7 b8 b9 a1 = some r := by
 unfold Zk.f
 (try simp only [Zm.tot, Option.bind_some])
 repeat' (first | exact ⟨_, rfl⟩ | exact Zk.j1.isS .. | exact Zk.j0.isS .. | (exfalso; omega) | split)
theorem Zk.tot (b0 b1 b2 b3 b4 b5 b6 b7 b8 : Int) (b9 : Bool) (a1 : Int) : Zk.f b0 b1 b2 b3 b4 b5 b6 b7 b8 b9 a1 = some (Zk.F b0 b1 b2 b3 b4 b5 b6 b7 b8 b9 a1) := by
 obtain ⟨r, h⟩ := Zk.f.isS b0 b1 b2 b3 b4 b5 b6 b7 b8 b9 a1
 unfold Zk.F
 rw [h]
 rfl
def Zk.g : List AV → Option AV
 | [x0, x1] => (dC x0).bind fun c0 => (i1 x1).bind fun c1 => some (.agg [.int (Zk.F c0.f0 c0.f1 c0.f2 c0.f3 c0.f4 c0.f5 c0.f6 c0.f7 c0.f8 c0.f9 c1).1, .int (Zk.F c0.f0 c0.f1 c0.f2 c0.f3 c0.f4 c0.f5 c0.f6 c0.f7 c0.f8 c0.f9 c1).2.1, .int (Zk.F c0.f0 c0.f1 c0.f2 c0.f3 c0.f4 c0.f5 c0.f6 c0.f7 c0.f8 c0.f9 c1).2.2.1, .int (Zk.F c0.f0 c0.f1 c0.f2 c0.f3 c0.f4 c0.f5 c0.f6 c0.f7 c0.f8 c0.f9 c1).2.2.2.1, .int (Zk.F c0.f0 c0.f1 c0.f2 c0.f3 c0.f4 c0.f5 c0.f6 c0.f7 c0.f8 c0.f9 c1).2.2.2.2.1, .int (Zk.F c0.f0 c0.f1 c0.f2 c0.f3 c0.f4 c0.f5 c0.f6 c0.f7 c0.f8 c0.f9 c1).2.2.2.2.2.1, .int (Zk.F c0.f0 c0.f1 c0.f2 c0.f3 c0.f4 c0.f5 c0.f6 c0.f7 c0.f8 c0.f9 c1).2.2.2.2.2.2.1, .int (Zk.F c0.f0 c0.f1 c0.f2 c0.f3 c0.f4 c0.f5 c0.f6 c0.f7 c0.f8 c0.f9 c1).2.2.2.2.2.2.2.1, .int (Zk.F c0.f0 c0.f1 c0.f2 c0.f3 c0.f4 c0.f5 c0.f6 c0.f7 c0.f8 c0.f9 c1).2.2.2.2.2.2.2.2.1, .bool (Zk.F c0.f0 c0.f1 c0.f2 c0.f3 c0.f4 c0.f5 c0.f6 c0.f7 c0.f8 c0.f9 c1).2.2.2.2.2.2.2.2.2])
 | _ => none
theorem Zk.walk (b0 b1 b2 b3 b4 b5 b6 b7 b8 : Int) (b9 : Bool) (a1 : Int) : Walk 71 [(43, Zm.g)] 6 900 [.agg [.int b0, .int b1, .int b2, .int b3, .int b4, .int b5, .int b6, .int b7, .int b8, .bool b9], .int a1] ((.agg [.int (Zk.F b0 b1 b2 b3 b4 b5 b6 b7 b8 b9 a1).1, .int (Zk.F b0 b1 b2 b3 b4 b5 b6 b7 b8 b9 a1).2.1, .int (Zk.F b0 b1 b2 b3 b4 b5 b6 b7 b8 b9 a1).2.2.1, .int (Zk.F b0 b1 b2 b3 b4 b5 b6 b7 b8 b9 a1).2.2.2.1, .int (Zk.F b0 b1 b2 b3 b4 b5 b6 b7 b8 b9 a1).2.2.2.2.1, .int (Zk.F b0 b1 b2 b3 b4 b5 b6 b7 b8 b9 a1).2.2.2.2.2.1, .int (Zk.F b0 b1 b2 b3 b4 b5 b6 b7 b8 b9 a1).2.2.2.2.2.2.1, .int (Zk.F b0 b1 b2 b3 b4 b5 b6 b7 b8 b9 a1).2.2.2.2.2.2.2.1, .int (Zk.F b0 b1 b2 b3 b4 b5 b6 b7 b8 b9 a1).2.2.2.2.2.2.2.2.1, .bool (Zk.F b0 b1 b2 b3 b4 b5 b6 b7 b8 b9 a1).2.2.2.2.2.2.2.2.2] : AV).v R0) := by
 refine w1 fun v O hv hO => ⟨_, _, Tryz.func71, rfl, by kernel_rfl, Nat.le_of_ble_eq_true rfl, ?_⟩
 unfold Zm.g
 generalize hf0 : Zm.F = f0
 (try cbv)
 repeat' (apply And.intro <;> (try intro h) <;> (try cbv))
 all_goals (subst hv hO; subst hf0; (try dsimp only [std] at *); (try simp only [nt_] at *)) <;> first | rfl | (simp only [Zk.F, Zk.f, AV.v, AV.vs, Zm.tot, Zk.j1, Zk.j0, nv_, reduceIte, *]; done) | (simp_all (maxSteps := 1000000) [std, Zk.F, Zk.f, AV.v, AV.vs, Zm.tot, Zk.j1, Zk.j0] <;> (repeat' split) <;> first | rfl | omega | (simp_all; done) | (simp_all; omega))
theorem Zk.fn : Fn 71 Zk.g := by
 refine ⟨⟨_, Tryz.func71, rfl, rfl⟩, fun R l v hg w => ?_⟩
 unfold Zk.g at hg
 split at hg
 ·rename_i x0 x1
  obtain ⟨c0, e0, hg⟩ := Option.bind_eq_some_iff.1 hg
  obtain ⟨c1, e1, hg⟩ := Option.bind_eq_some_iff.1 hg
  injection hg with hg
  subst hg
  have := (Zk.walk c0.f0 c0.f1 c0.f2 c0.f3 c0.f4 c0.f5 c0.f6 c0.f7 c0.f8 c0.f9 c1).calls (all_cons Zm.fn ZX) w
  simpa only [AV.vs, AV.v, clA, dC_v R e0, i1_v R e1] using this
 ·cases hg
end Go.Proofs.YtgghglocfdcegaaGreat.Xec
