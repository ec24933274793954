/- Part S1 of the proof of FnExactCrewStep and FnExactCrewRun (wip/xec, pack.py). No condition. -/
import Derived.Test.YtgghglocfdcegaaGreatKE
namespace Go.Proofs.YtgghglocfdcegaaGreat.Xec
open Go Go.RowKit Go.Proofs.YtgghglocfdcegaaGreat.PFnExactCrewRun Go.Proofs.YtgghglocfdcegaaGreatW.PrintWords
set_option linter.unusedVariables false
set_option linter.unusedSimpArgs false
set_option maxRecDepth 100000
set_option maxHeartbeats 16000000
def Zn.j3 (x7 x9 a2 a5 a6 a1 a7 a4 a3 a8 a9 : Int) (c2 : Bool) : Option (TA) := (Zam.f x7).bind fun d1 => ((Zat.f d1 x9).bind fun c9 => (if c9.2 = true then ((ZT.f 0 a3 c9.1).bind fun c3 => (some (c3.1, c3.2.1, c3.2.2.1, c3.2.2.2.1, c3.2.2.2.2))) else (some (0, 0, 0, 0, false))))
def Zn.j2 (x6 x7 x8 : Int) (x72 : Bool) (a2 a5 a6 a1 a7 a4 a3 a8 a9 : Int) (c2 : Bool) : Option (TA) := if x72 = true then ((Zu.f (wrap64 (1 + x6)) x8).bind fun c4 => (some (c4.1, c4.2.1, c4.2.2.1, c4.2.2.2.1, c4.2.2.2.2))) else (if a1 = 1 then ((Zw.f (wrap64 (1 + x6))).bind fun c5 => (some (c5.1, c5.2.1, c5.2.2.1, c5.2.2.2.1, c5.2.2.2.2))) else (if a2 = 1 then (Zn.j3 x7 (wrap64 (x6 + 1)) a2 a5 a6 a1 a7 a4 a3 a8 a9 c2) else (Zn.j3 x7 a4 a2 a5 a6 a1 a7 a4 a3 a8 a9 c2)))
def Zn.j1 (x0 x6 : Int) (x49 : Bool) (a2 a5 a6 a1 a7 a4 a3 a8 a9 : Int) (c2 : Bool) : Option (TA) := if x49 = true then ((Zw.f 0).bind fun c6 => (some (c6.1, c6.2.1, c6.2.2.1, c6.2.2.2.1, c6.2.2.2.2))) else ((ZP.f x6 0 (wrap64 (x0 - 1))).bind fun d2 => (if d2 = true then ((Zv.f a3).bind fun c8 => (if a1 = 0 then ((Zw.f 0).bind fun c7 => (some (c7.1, c7.2.1, c7.2.2.1, c7.2.2.2.1, c7.2.2.2.2))) else (if a1 = 1 then (Zn.j2 x6 c8.1 c8.2 (a2 == 1) a2 a5 a6 a1 a7 a4 a3 a8 a9 c2) else (Zn.j2 x6 c8.1 c8.2 false a2 a5 a6 a1 a7 a4 a3 a8 a9 c2)))) else (some (0, 0, 0, 0, false))))
def Zn.j0 (x0 : Int) (x38 : Bool) (a2 a5 a6 a1 a7 a4 a3 a8 a9 : Int) (c2 : Bool) : Option (TA) := if x38 = true then (some (0, 0, 0, 0, false)) else ((ZQ.f a2 a5 a6 a1 a7 a4 a3 a8 a9 c2).bind fun d0 => (if a2 = 2 then (Zn.j1 x0 d0 (a1 == 0) a2 a5 a6 a1 a7 a4 a3 a8 a9 c2) else (Zn.j1 x0 d0 false a2 a5 a6 a1 a7 a4 a3 a8 a9 c2)))
def Zn.f (a0 b0 b1 b2 b3 b4 b5 b6 b7 b8 : Int) (b9 : Bool) : Option (TA) := if b9 = true then (Zn.j0 a0 true b0 b1 b2 b3 b4 b5 b6 b7 b8 b9) else ((Zx.f a0).bind fun d3 => (if d3 = true then (if b0 < 1 then (Zn.j0 a0 true b0 b1 b2 b3 b4 b5 b6 b7 b8 b9) else (if b0 > 2 then (Zn.j0 a0 true b0 b1 b2 b3 b4 b5 b6 b7 b8 b9) else (if b3 < 0 then (Zn.j0 a0 true b0 b1 b2 b3 b4 b5 b6 b7 b8 b9) else (Zn.j0 a0 (decide (b3 > 2)) b0 b1 b2 b3 b4 b5 b6 b7 b8 b9)))) else (Zn.j0 a0 true b0 b1 b2 b3 b4 b5 b6 b7 b8 b9)))
def Zn.F (a0 b0 b1 b2 b3 b4 b5 b6 b7 b8 : Int) (b9 : Bool) : TA := (Zn.f a0 b0 b1 b2 b3 b4 b5 b6 b7 b8 b9).getD (0, 0, 0, 0, false)
theorem Zn.j3.isS (x7 x9 a2 a5 a6 a1 a7 a4 a3 a8 a9 : Int) (c2 : Bool) : ∃ r, Zn.j3 x7 x9 a2 a5 a6 a1 a7 a4 a3 a8 a9 c2 = some r := by
 unfold Zn.j3
 (try simp only [Zx.tot, ZP.tot, Zv.tot, ZQ.tot, Zw.tot, Zu.tot, Zat.tot, Zam.tot, ZT.tot, Option.bind_some])
 repeat' (first | exact ⟨_, rfl⟩ | (exfalso; omega) | split)
theorem Zn.j2.isS (x6 x7 x8 : Int) (x72 : Bool) (a2 a5 a6 a1 a7 a4 a3 a8 a9 : Int) (c2 : Bool) : ∃ r, Zn.j2 x6 x7 x8 x72 a2 a5 a6 a1 a7 a4 a3 a8 a9 c2 = some r := by
 unfold Zn.j2
 (try simp only [Zx.tot, ZP.tot, Zv.tot, ZQ.tot, Zw.tot, Zu.tot, Zat.tot, Zam.tot, ZT.tot, Option.bind_some])
 repeat' (first | exact ⟨_, rfl⟩ | exact Zn.j3.isS .. | (exfalso; omega) | split)
theorem Zn.j1.isS (x0 x6 : Int) (x49 : Bool) (a2 a5 a6 a1 a7 a4 a3 a8 a9 : Int) (c2 : Bool) : ∃ r, Zn.j1 x0 x6 x49 a2 a5 a6 a1 a7 a4 a3 a8 a9 c2 = some r := by
 unfold Zn.j1
 (try simp only [Zx.tot, ZP.tot, Zv.tot, ZQ.tot, Zw.tot, Zu.tot, Zat.tot, Zam.tot, ZT.tot, Option.bind_some])
 repeat' (first | exact ⟨_, rfl⟩ | exact Zn.j3.isS .. | exact Zn.j2.isS .. | (exfalso; omega) | split)
theorem Zn.j0.isS (x0 : Int) (x38 : Bool) (a2 a5 a6 a1 a7 a4 a3 a8 a9 : Int) (c2 : Bool) : ∃ r, Zn.j0 x0 x38 a2 a5 a6 a1 a7 a4 a3 a8 a9 c2 = some r := by
 unfold Zn.j0
 (try simp only [Zx.tot, ZP.tot, Zv.tot, ZQ.tot, Zw.tot, Zu.tot, Zat.tot, Zam.tot, ZT.tot, Option.bind_some])
 repeat' (first | exact ⟨_, rfl⟩ | exact Zn.j3.isS .. | exact Zn.j2.isS .. | exact Zn.j1.isS .. | (exfalso; omega) | split)
theorem Zn.f.isS (a0 b0 b1 b2 b3 b4 b5 b6 b7 b8 : Int) (b9 : Bool) : ∃ r, Zn.f a0 b0 b1 b2 b3 b4 b5 b6 b7 b8 b9 = some r := by
 unfold Zn.f
 (try simp only [Zx.tot, ZP.tot, Zv.tot, ZQ.tot, Zw.tot, Zu.tot, Zat.tot, Zam.tot, ZT.tot, Option.bind_some])
 repeat' (first | exact ⟨_, rfl⟩ | exact Zn.j3.isS .. | exact Zn.j2.isS .. | exact Zn.j1.isS .. | exact Zn.j0.isS .. | (exfalso; omega) | split)
theorem Zn.tot (a0 b0 b1 b2 b3 b4 b5 b6 b7 b8 : Int) (b9 : Bool) : Zn.f a0 b0 b1 b2 b3 b4 b5 b6 b7 b8 b9 = some (Zn.F a0 b0 b1 b2 b3 b4 b5 b6 b7 b8 b9) := by
 obtain ⟨r, h⟩ := Zn.f.isS a0 b0 b1 b2 b3 b4 b5 b6 b7 b8 b9
 unfold Zn.F
 rw [h]
 rfl
def Zn.g : List AV → Option AV
 | [x0, x1] => (i1 x0).bind fun c0 => (dC x1).bind fun c1 => some (.tup [.agg [.int (Zn.F c0 c1.f0 c1.f1 c1.f2 c1.f3 c1.f4 c1.f5 c1.f6 c1.f7 c1.f8 c1.f9).1, .int (Zn.F c0 c1.f0 c1.f1 c1.f2 c1.f3 c1.f4 c1.f5 c1.f6 c1.f7 c1.f8 c1.f9).2.1, .int (Zn.F c0 c1.f0 c1.f1 c1.f2 c1.f3 c1.f4 c1.f5 c1.f6 c1.f7 c1.f8 c1.f9).2.2.1, .int (Zn.F c0 c1.f0 c1.f1 c1.f2 c1.f3 c1.f4 c1.f5 c1.f6 c1.f7 c1.f8 c1.f9).2.2.2.1], .bool (Zn.F c0 c1.f0 c1.f1 c1.f2 c1.f3 c1.f4 c1.f5 c1.f6 c1.f7 c1.f8 c1.f9).2.2.2.2])
 | _ => none
theorem Zn.walk (a0 b0 b1 b2 b3 b4 b5 b6 b7 b8 : Int) (b9 : Bool) : Walk 64 [(38, Zx.g), (68, ZP.g), (67, Zv.g), (69, ZQ.g), (91, Zw.g), (92, Zu.g), (93, Zat.g), (94, Zam.g), (95, ZT.g)] 7 900 [.int a0, .agg [.int b0, .int b1, .int b2, .int b3, .int b4, .int b5, .int b6, .int b7, .int b8, .bool b9]] ((.tup [.agg [.int (Zn.F a0 b0 b1 b2 b3 b4 b5 b6 b7 b8 b9).1, .int (Zn.F a0 b0 b1 b2 b3 b4 b5 b6 b7 b8 b9).2.1, .int (Zn.F a0 b0 b1 b2 b3 b4 b5 b6 b7 b8 b9).2.2.1, .int (Zn.F a0 b0 b1 b2 b3 b4 b5 b6 b7 b8 b9).2.2.2.1], .bool (Zn.F a0 b0 b1 b2 b3 b4 b5 b6 b7 b8 b9).2.2.2.2] : AV).v R0) := by
 refine w1 fun v O hv hO => ⟨_, _, Tryz.func64, rfl, by kernel_rfl, Nat.le_of_ble_eq_true rfl, ?_⟩
 unfold Zx.g
 generalize hf0 : Zx.F = f0
 unfold ZP.g
 generalize hf1 : ZP.F = f1
 unfold Zv.g
 generalize hf2 : Zv.F = f2
 unfold ZQ.g
 generalize hf3 : ZQ.F = f3
 unfold Zw.g
 generalize hf4 : Zw.F = f4
 unfold Zu.g
 generalize hf5 : Zu.F = f5
 unfold Zat.g
 generalize hf6 : Zat.F = f6
 unfold Zam.g
 generalize hf7 : Zam.F = f7
 unfold ZT.g
 generalize hf8 : ZT.F = f8
 (try cbv)
 repeat' (apply And.intro <;> (try intro h) <;> (try cbv))
 all_goals (subst hv hO; subst hf0; subst hf1; subst hf2; subst hf3; subst hf4; subst hf5; subst hf6; subst hf7; subst hf8; (try dsimp only [std] at *); (try simp only [nt_] at *); (try subst_vars)) <;> first | rfl | (simp only [Zn.F, Zn.f, AV.v, AV.vs, Zx.tot, ZP.tot, Zv.tot, ZQ.tot, Zw.tot, Zu.tot, Zat.tot, Zam.tot, ZT.tot, Zn.j3, Zn.j2, Zn.j1, Zn.j0, nv_, reduceIte, bne_iff_ne, bne_self_eq_false, not_false_eq_true, not_true_eq_false, ne_eq, *]; done) | (simp_all (maxSteps := 1000000) [std, Zn.F, Zn.f, AV.v, AV.vs, Zx.tot, ZP.tot, Zv.tot, ZQ.tot, Zw.tot, Zu.tot, Zat.tot, Zam.tot, ZT.tot, Zn.j3, Zn.j2, Zn.j1, Zn.j0] <;> (repeat' split) <;> first | rfl | omega | (simp_all; done) | (simp_all; omega))
theorem Zn.fn : Fn 64 Zn.g := by
 refine ⟨⟨_, Tryz.func64, rfl, rfl⟩, fun R l v hg w => ?_⟩
 unfold Zn.g at hg
 split at hg
 ·rename_i x0 x1
  obtain ⟨c0, e0, hg⟩ := Option.bind_eq_some_iff.1 hg
  obtain ⟨c1, e1, hg⟩ := Option.bind_eq_some_iff.1 hg
  injection hg with hg
  subst hg
  have := (Zn.walk c0 c1.f0 c1.f1 c1.f2 c1.f3 c1.f4 c1.f5 c1.f6 c1.f7 c1.f8 c1.f9).calls (all_cons Zx.fn (all_cons ZP.fn (all_cons Zv.fn (all_cons ZQ.fn (all_cons Zw.fn (all_cons Zu.fn (all_cons Zat.fn (all_cons Zam.fn (all_cons ZT.fn ZW))))))))) w
  simpa only [AV.vs, AV.v, clA, i1_v R e0, dC_v R e1] using this
 ·cases hg
def Zt.j3 (x0 x6 x43 : Int) (x61 : Bool) (a2 a4 a5 a3 a1 a6 a7 a8 a9 : Int) (c2 : Bool) : Option (TA) := if x61 = true then ((ZT.f x6 a1 (wrap64 (a1 + 1))).bind fun c3 => (some (c3.1, c3.2.1, c3.2.2.1, c3.2.2.2.1, c3.2.2.2.2))) else (if x43 = 13 then ((Zao.f x0 a1).bind fun d0 => ((Zu.f (wrap64 (d0 + 1)) a4).bind fun c4 => (some (c4.1, c4.2.1, c4.2.2.1, c4.2.2.2.1, c4.2.2.2.2)))) else (if x43 = 23 then ((Zao.f x0 a1).bind fun d1 => ((Zw.f (wrap64 (d1 + 1))).bind fun c5 => (some (c5.1, c5.2.1, c5.2.2.1, c5.2.2.2.1, c5.2.2.2.2)))) else (if x43 = 14 then ((Zao.f x0 a1).bind fun d2 => ((Zu.f d2 (wrap64 (a1 + 1))).bind fun c6 => (some (c6.1, c6.2.1, c6.2.2.1, c6.2.2.2.1, c6.2.2.2.2)))) else ((Zao.f x0 a1).bind fun d3 => ((Zu.f d3 (wrap64 (a1 + x0))).bind fun c7 => (some (c7.1, c7.2.1, c7.2.2.1, c7.2.2.2.1, c7.2.2.2.2)))))))
def Zt.j2 (x0 x6 x43 : Int) (x51 : Bool) (a2 a4 a5 a3 a1 a6 a7 a8 a9 : Int) (c2 : Bool) : Option (TA) := if x51 = true then ((Zao.f x0 a1).bind fun d4 => ((Zw.f d4).bind fun c8 => (some (c8.1, c8.2.1, c8.2.2.1, c8.2.2.2.1, c8.2.2.2.2)))) else (if x43 = 12 then (Zt.j3 x0 x6 x43 (x43 == 12) a2 a4 a5 a3 a1 a6 a7 a8 a9 c2) else (Zt.j3 x0 x6 x43 (x43 == 22) a2 a4 a5 a3 a1 a6 a7 a8 a9 c2))
def Zt.j1 (x0 x6 x43 : Int) (x44 : Bool) (a2 a4 a5 a3 a1 a6 a7 a8 a9 : Int) (c2 : Bool) : Option (TA) := if x44 = true then ((Zw.f x6).bind fun c9 => (some (c9.1, c9.2.1, c9.2.2.1, c9.2.2.2.1, c9.2.2.2.2))) else (if x43 = 11 then (Zt.j2 x0 x6 x43 (x43 == 11) a2 a4 a5 a3 a1 a6 a7 a8 a9 c2) else (Zt.j2 x0 x6 x43 (x43 == 21) a2 a4 a5 a3 a1 a6 a7 a8 a9 c2))
def Zt.j0 (x0 : Int) (x33 : Bool) (a2 a4 a5 a3 a1 a6 a7 a8 a9 : Int) (c2 : Bool) : Option (TA) := if x33 = true then (some (0, 0, 0, 0, false)) else (if (wrap64 ((wrap64 (10 * a2)) + a3)) = 10 then (Zt.j1 x0 (wrap64 (a2 - 1)) (wrap64 ((wrap64 (10 * a2)) + a3)) ((wrap64 ((wrap64 (10 * a2)) + a3)) == 10) a2 a4 a5 a3 a1 a6 a7 a8 a9 c2) else (Zt.j1 x0 (wrap64 (a2 - 1)) (wrap64 ((wrap64 (10 * a2)) + a3)) ((wrap64 ((wrap64 (10 * a2)) + a3)) == 20) a2 a4 a5 a3 a1 a6 a7 a8 a9 c2))
def Zt.f (a0 b0 b1 b2 b3 b4 b5 b6 b7 b8 : Int) (b9 : Bool) : Option (TA) := if b9 = true then (Zt.j0 a0 true b0 b1 b2 b3 b4 b5 b6 b7 b8 b9) else ((Zah.f a0).bind fun d5 => (if d5 = true then (if b0 < 1 then (Zt.j0 a0 true b0 b1 b2 b3 b4 b5 b6 b7 b8 b9) else (if b0 > 2 then (Zt.j0 a0 true b0 b1 b2 b3 b4 b5 b6 b7 b8 b9) else (if b3 < 0 then (Zt.j0 a0 true b0 b1 b2 b3 b4 b5 b6 b7 b8 b9) else (Zt.j0 a0 (decide (b3 > 4)) b0 b1 b2 b3 b4 b5 b6 b7 b8 b9)))) else (Zt.j0 a0 true b0 b1 b2 b3 b4 b5 b6 b7 b8 b9)))
def Zt.F (a0 b0 b1 b2 b3 b4 b5 b6 b7 b8 : Int) (b9 : Bool) : TA := (Zt.f a0 b0 b1 b2 b3 b4 b5 b6 b7 b8 b9).getD (0, 0, 0, 0, false)
theorem Zt.j3.isS (x0 x6 x43 : Int) (x61 : Bool) (a2 a4 a5 a3 a1 a6 a7 a8 a9 : Int) (c2 : Bool) : ∃ r, Zt.j3 x0 x6 x43 x61 a2 a4 a5 a3 a1 a6 a7 a8 a9 c2 = some r := by
 unfold Zt.j3
 (try simp only [Zw.tot, Zu.tot, ZT.tot, Zah.tot, Zao.tot, Option.bind_some])
 repeat' (first | exact ⟨_, rfl⟩ | (exfalso; omega) | split)
theorem Zt.j2.isS (x0 x6 x43 : Int) (x51 : Bool) (a2 a4 a5 a3 a1 a6 a7 a8 a9 : Int) (c2 : Bool) : ∃ r, Zt.j2 x0 x6 x43 x51 a2 a4 a5 a3 a1 a6 a7 a8 a9 c2 = some r := by
 unfold Zt.j2
 (try simp only [Zw.tot, Zu.tot, ZT.tot, Zah.tot, Zao.tot, Option.bind_some])
 repeat' (first | exact ⟨_, rfl⟩ | exact Zt.j3.isS .. | (exfalso; omega) | split)
theorem Zt.j1.isS (x0 x6 x43 : Int) (x44 : Bool) (a2 a4 a5 a3 a1 a6 a7 a8 a9 : Int) (c2 : Bool) : ∃ r, Zt.j1 x0 x6 x43 x44 a2 a4 a5 a3 a1 a6 a7 a8 a9 c2 = some r := by
 unfold Zt.j1
 (try simp only [Zw.tot, Zu.tot, ZT.tot, Zah.tot, Zao.tot, Option.bind_some])
 repeat' (first | exact ⟨_, rfl⟩ | exact Zt.j3.isS .. | exact Zt.j2.isS .. | (exfalso; omega) | split)
theorem Zt.j0.isS (x0 : Int) (x33 : Bool) (a2 a4 a5 a3 a1 a6 a7 a8 a9 : Int) (c2 : Bool) : ∃ r, Zt.j0 x0 x33 a2 a4 a5 a3 a1 a6 a7 a8 a9 c2 = some r := by
 unfold Zt.j0
 (try simp only [Zw.tot, Zu.tot, ZT.tot, Zah.tot, Zao.tot, Option.bind_some])
 repeat' (first | exact ⟨_, rfl⟩ | exact Zt.j3.isS .. | exact Zt.j2.isS .. | exact Zt.j1.isS .. | (exfalso; omega) | split)
theorem Zt.f.isS (a0 b0 b1 b2 b3 b4 b5 b6 b7 b8 : Int) (b9 : Bool) : ∃ r, Zt.f a0 b0 b1 b2 b3 b4 b5 b6 b7 b8 b9 = some r := by
 unfold Zt.f
 (try simp only [Zw.tot, Zu.tot, ZT.tot, Zah.tot, Zao.tot, Option.bind_some])
 repeat' (first | exact ⟨_, rfl⟩ | exact Zt.j3.isS .. | exact Zt.j2.isS .. | exact Zt.j1.isS .. | exact Zt.j0.isS .. | (exfalso; omega) | split)
theorem Zt.tot (a0 b0 b1 b2 b3 b4 b5 b6 b7 b8 : Int) (b9 : Bool) : Zt.f a0 b0 b1 b2 b3 b4 b5 b6 b7 b8 b9 = some (Zt.F a0 b0 b1 b2 b3 b4 b5 b6 b7 b8 b9) := by
 obtain ⟨r, h⟩ := Zt.f.isS a0 b0 b1 b2 b3 b4 b5 b6 b7 b8 b9
 unfold Zt.F
 rw [h]
 rfl
def Zt.g : List AV → Option AV
 | [x0, x1] => (i1 x0).bind fun c0 => (dC x1).bind fun c1 => some (.tup [.agg [.int (Zt.F c0 c1.f0 c1.f1 c1.f2 c1.f3 c1.f4 c1.f5 c1.f6 c1.f7 c1.f8 c1.f9).1, .int (Zt.F c0 c1.f0 c1.f1 c1.f2 c1.f3 c1.f4 c1.f5 c1.f6 c1.f7 c1.f8 c1.f9).2.1, .int (Zt.F c0 c1.f0 c1.f1 c1.f2 c1.f3 c1.f4 c1.f5 c1.f6 c1.f7 c1.f8 c1.f9).2.2.1, .int (Zt.F c0 c1.f0 c1.f1 c1.f2 c1.f3 c1.f4 c1.f5 c1.f6 c1.f7 c1.f8 c1.f9).2.2.2.1], .bool (Zt.F c0 c1.f0 c1.f1 c1.f2 c1.f3 c1.f4 c1.f5 c1.f6 c1.f7 c1.f8 c1.f9).2.2.2.2])
 | _ => none
theorem Zt.walk (a0 b0 b1 b2 b3 b4 b5 b6 b7 b8 : Int) (b9 : Bool) : Walk 70 [(91, Zw.g), (92, Zu.g), (95, ZT.g), (98, Zah.g), (99, Zao.g)] 7 900 [.int a0, .agg [.int b0, .int b1, .int b2, .int b3, .int b4, .int b5, .int b6, .int b7, .int b8, .bool b9]] ((.tup [.agg [.int (Zt.F a0 b0 b1 b2 b3 b4 b5 b6 b7 b8 b9).1, .int (Zt.F a0 b0 b1 b2 b3 b4 b5 b6 b7 b8 b9).2.1, .int (Zt.F a0 b0 b1 b2 b3 b4 b5 b6 b7 b8 b9).2.2.1, .int (Zt.F a0 b0 b1 b2 b3 b4 b5 b6 b7 b8 b9).2.2.2.1], .bool (Zt.F a0 b0 b1 b2 b3 b4 b5 b6 b7 b8 b9).2.2.2.2] : AV).v R0) := by
 refine w1 fun v O hv hO => ⟨_, _, Tryz.func70, rfl, by kernel_rfl, Nat.le_of_ble_eq_true rfl, ?_⟩
 unfold Zw.g
 generalize hf0 : Zw.F = f0
 unfold Zu.g
 generalize hf1 : Zu.F = f1
 unfold ZT.g
 generalize hf2 : ZT.F = f2
 unfold Zah.g
 generalize hf3 : Zah.F = f3
 unfold Zao.g
 generalize hf4 : Zao.F = f4
 (try cbv)
 repeat' (apply And.intro <;> (try intro h) <;> (try cbv))
 all_goals (subst hv hO; subst hf0; subst hf1; subst hf2; subst hf3; subst hf4; (try dsimp only [std] at *); (try simp only [nt_] at *)) <;> first | rfl | (simp only [Zt.F, Zt.f, AV.v, AV.vs, Zw.tot, Zu.tot, ZT.tot, Zah.tot, Zao.tot, Zt.j3, Zt.j2, Zt.j1, Zt.j0, nv_, reduceIte, *]; done) | (simp_all (maxSteps := 1000000) [std, Zt.F, Zt.f, AV.v, AV.vs, Zw.tot, Zu.tot, ZT.tot, Zah.tot, Zao.tot, Zt.j3, Zt.j2, Zt.j1, Zt.j0] <;> (repeat' split) <;> first | rfl | omega | (simp_all; done) | (simp_all; omega))
theorem Zt.fn : Fn 70 Zt.g := by
 refine ⟨⟨_, Tryz.func70, rfl, rfl⟩, fun R l v hg w => ?_⟩
 unfold Zt.g at hg
 split at hg
 ·rename_i x0 x1
  obtain ⟨c0, e0, hg⟩ := Option.bind_eq_some_iff.1 hg
  obtain ⟨c1, e1, hg⟩ := Option.bind_eq_some_iff.1 hg
  injection hg with hg
  subst hg
  have := (Zt.walk c0 c1.f0 c1.f1 c1.f2 c1.f3 c1.f4 c1.f5 c1.f6 c1.f7 c1.f8 c1.f9).calls (all_cons Zw.fn (all_cons Zu.fn (all_cons ZT.fn (all_cons Zah.fn (all_cons Zao.fn ZW))))) w
  simpa only [AV.vs, AV.v, clA, i1_v R e0, dC_v R e1] using this
 ·cases hg
def Zj.j1 (x5 : Int) (x26 : Bool) (a0 a2 a3 c2 a4 a5 a6 a7 a8 : Int) (a9 : Bool) : Option (TC) := if x26 = true then ((Zm.f a0 a2 a3 c2 a4 a5 a6 a7 a8 a9 3).bind fun c3 => (some (c3.1, c3.2.1, c3.2.2.1, c3.2.2.2.1, c3.2.2.2.2.1, c3.2.2.2.2.2.1, c3.2.2.2.2.2.2.1, c3.2.2.2.2.2.2.2.1, c3.2.2.2.2.2.2.2.2.1, c3.2.2.2.2.2.2.2.2.2))) else (if x5 < 0 then ((Zm.f a0 a2 a3 c2 a4 a5 a6 a7 a8 a9 2).bind fun c4 => (some (c4.1, c4.2.1, c4.2.2.1, c4.2.2.2.1, c4.2.2.2.2.1, c4.2.2.2.2.2.1, c4.2.2.2.2.2.2.1, c4.2.2.2.2.2.2.2.1, c4.2.2.2.2.2.2.2.2.1, c4.2.2.2.2.2.2.2.2.2))) else (if x5 > 0 then (some (a0, a2, a3, 0, a4, a5, a6, a7, a8, a9)) else (some (a0, a2, a3, c2, a4, a5, a6, a7, a8, a9))))
def Zj.j0 (x5 a0 a2 a3 c2 a4 a5 a6 a7 a8 : Int) (a9 : Bool) : Option (TC) := if x5 < 0 then (Zj.j1 x5 (a0 == 1) a0 a2 a3 c2 a4 a5 a6 a7 a8 a9) else (Zj.j1 x5 false a0 a2 a3 c2 a4 a5 a6 a7 a8 a9)
def Zj.f (b0 b1 b2 b3 b4 b5 b6 b7 b8 : Int) (b9 : Bool) (a1 : Int) : Option (TC) := if b0 = 2 then (Zj.j0 (wrap64 (a1 - (wrap64 (b4 + 1)))) b0 b1 b2 b3 b4 a1 b6 b7 b8 b9) else (Zj.j0 (wrap64 (a1 - b4)) b0 b1 b2 b3 b4 a1 b6 b7 b8 b9)
def Zj.F (b0 b1 b2 b3 b4 b5 b6 b7 b8 : Int) (b9 : Bool) (a1 : Int) : TC := (Zj.f b0 b1 b2 b3 b4 b5 b6 b7 b8 b9 a1).getD (0, 0, 0, 0, 0, 0, 0, 0, 0, false)
theorem Zj.j1.isS (x5 : Int) (x26 : Bool) (a0 a2 a3 c2 a4 a5 a6 a7 a8 : Int) (a9 : Bool) : ∃ r, Zj.j1 x5 x26 a0 a2 a3 c2 a4 a5 a6 a7 a8 a9 = some r := by
 unfold Zj.j1
 (try simp only [Zm.tot, Option.bind_some])
 repeat' (first | exact ⟨_, rfl⟩ | (exfalso; omega) | split)
theorem Zj.j0.isS (x5 a0 a2 a3 c2 a4 a5 a6 a7 a8 : Int) (a9 : Bool) : ∃ r, Zj.j0 x5 a0 a2 a3 c2 a4 a5 a6 a7 a8 a9 = some r := by
 unfold Zj.j0
 (try simp only [Zm.tot, Option.bind_some])
 repeat' (first | exact ⟨_, rfl⟩ | exact Zj.j1.isS .. | (exfalso; omega) | split)
theorem Zj.f.isS (b0 b1 b2 b3 b4 b5 b6 b7 b8 : Int) (b9 : Bool) (a1 : Int) : ∃ r, Zj.f b0 b1 b2 b3 b4 b5 b6 b7 b8 b9 a1 = some r := by
 unfold Zj.f
 (try simp only [Zm.tot, Option.bind_some])
 repeat' (first | exact ⟨_, rfl⟩ | exact Zj.j1.isS .. | exact Zj.j0.isS .. | (exfalso; omega) | split)
theorem Zj.tot (b0 b1 b2 b3 b4 b5 b6 b7 b8 : Int) (b9 : Bool) (a1 : Int) : Zj.f b0 b1 b2 b3 b4 b5 b6 b7 b8 b9 a1 = some (Zj.F b0 b1 b2 b3 b4 b5 b6 b7 b8 b9 a1) := by
 obtain ⟨r, h⟩ := Zj.f.isS b0 b1 b2 b3 b4 b5 b6 b7 b8 b9 a1
 unfold Zj.F
 rw [h]
 rfl
def Zj.g : List AV → Option AV
 | [x0, x1] => (dC x0).bind fun c0 => (i1 x1).bind fun c1 => some (.agg [.int (Zj.F c0.f0 c0.f1 c0.f2 c0.f3 c0.f4 c0.f5 c0.f6 c0.f7 c0.f8 c0.f9 c1).1, .int (Zj.F c0.f0 c0.f1 c0.f2 c0.f3 c0.f4 c0.f5 c0.f6 c0.f7 c0.f8 c0.f9 c1).2.1, .int (Zj.F c0.f0 c0.f1 c0.f2 c0.f3 c0.f4 c0.f5 c0.f6 c0.f7 c0.f8 c0.f9 c1).2.2.1, .int (Zj.F c0.f0 c0.f1 c0.f2 c0.f3 c0.f4 c0.f5 c0.f6 c0.f7 c0.f8 c0.f9 c1).2.2.2.1, .int (Zj.F c0.f0 c0.f1 c0.f2 c0.f3 c0.f4 c0.f5 c0.f6 c0.f7 c0.f8 c0.f9 c1).2.2.2.2.1, .int (Zj.F c0.f0 c0.f1 c0.f2 c0.f3 c0.f4 c0.f5 c0.f6 c0.f7 c0.f8 c0.f9 c1).2.2.2.2.2.1, .int (Zj.F c0.f0 c0.f1 c0.f2 c0.f3 c0.f4 c0.f5 c0.f6 c0.f7 c0.f8 c0.f9 c1).2.2.2.2.2.2.1, .int (Zj.F c0.f0 c0.f1 c0.f2 c0.f3 c0.f4 c0.f5 c0.f6 c0.f7 c0.f8 c0.f9 c1).2.2.2.2.2.2.2.1, .int (Zj.F c0.f0 c0.f1 c0.f2 c0.f3 c0.f4 c0.f5 c0.f6 c0.f7 c0.f8 c0.f9 c1).2.2.2.2.2.2.2.2.1, .bool (Zj.F c0.f0 c0.f1 c0.f2 c0.f3 c0.f4 c0.f5 c0.f6 c0.f7 c0.f8 c0.f9 c1).2.2.2.2.2.2.2.2.2])
 | _ => none
theorem Zj.walk (b0 b1 b2 b3 b4 b5 b6 b7 b8 : Int) (b9 : Bool) (a1 : Int) : Walk 71 [(43, Zm.g)] 6 900 [.agg [.int b0, .int b1, .int b2, .int b3, .int b4, .int b5, .int b6, .int b7, .int b8, .bool b9], .int a1] ((.agg [.int (Zj.F b0 b1 b2 b3 b4 b5 b6 b7 b8 b9 a1).1, .int (Zj.F b0 b1 b2 b3 b4 b5 b6 b7 b8 b9 a1).2.1, .int (Zj.F b0 b1 b2 b3 b4 b5 b6 b7 b8 b9 a1).2.2.1, .int (Zj.F b0 b1 b2 b3 b4 b5 b6 b7 b8 b9 a1).2.2.2.1, .int (Zj.F b0 b1 b2 b3 b4 b5 b6 b7 b8 b9 a1).2.2.2.2.1, .int (Zj.F b0 b1 b2 b3 b4 b5 b6 b7 b8 b9 a1).2.2.2.2.2.1, .int (Zj.F b0 b1 b2 b3 b4 b5 b6 b7 b8 b9 a1).2.2.2.2.2.2.1, .int (Zj.F b0 b1 b2 b3 b4 b5 b6 b7 b8 b9 a1).2.2.2.2.2.2.2.1, .int (Zj.F b0 b1 b2 b3 b4 b5 b6 b7 b8 b9 a1).2.2.2.2.2.2.2.2.1, .bool (Zj.F b0 b1 b2 b3 b4 b5 b6 b7 b8 b9 a1).2.2.2.2.2.2.2.2.2] : AV).v R0) := by
 refine w1 fun v O hv hO => ⟨_, _, Tryz.func71, rfl, by kernel_rfl, Nat.le_of_ble_eq_true rfl, ?_⟩
 unfold Zm.g
 generalize hf0 : Zm.F = f0
 (try cbv)
 repeat' (apply And.intro <;> (try intro h) <;> (try cbv))
 all_goals (subst hv hO; subst hf0; (try dsimp only [std] at *); (try simp only [nt_] at *)) <;> first | rfl | (simp only [Zj.F, Zj.f, AV.v, AV.vs, Zm.tot, Zj.j1, Zj.j0, nv_, reduceIte, *]; done) | (simp_all (maxSteps := 1000000) [std, Zj.F, Zj.f, AV.v, AV.vs, Zm.tot, Zj.j1, Zj.j0] <;> (repeat' split) <;> first | rfl | omega | (simp_all; done) | (simp_all; omega))
theorem Zj.fn : Fn 71 Zj.g := by
 refine ⟨⟨_, Tryz.func71, rfl, rfl⟩, fun R l v hg w => ?_⟩
 unfold Zj.g at hg
 split at hg
 ·rename_i x0 x1
  obtain ⟨c0, e0, hg⟩ := Option.bind_eq_some_iff.1 hg
  obtain ⟨c1, e1, hg⟩ := Option.bind_eq_some_iff.1 hg
  injection hg with hg
  subst hg
  have := (Zj.walk c0.f0 c0.f1 c0.f2 c0.f3 c0.f4 c0.f5 c0.f6 c0.f7 c0.f8 c0.f9 c1).calls (all_cons Zm.fn ZW) w
  simpa only [AV.vs, AV.v, clA, dC_v R e0, i1_v R e1] using this
 ·cases hg
end Go.Proofs.YtgghglocfdcegaaGreat.Xec
