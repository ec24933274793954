/- Part S5 of the proof of FnExactCrewStep and FnExactCrewRun (wip/xec, pack.py). No condition. -/
import Derived.Test.YtgghglocfdcegaaGreatKF
import Derived.Test.YtgghglocfdcegaaGreatKE
namespace Go.Proofs.YtgghglocfdcegaaGreat.Xec
open Go Go.RowKit Go.Proofs.YtgghglocfdcegaaGreat.PFnExactCrewRun Go.Proofs.YtgghglocfdcegaaGreatW.PrintWords
set_option linter.unusedVariables false
set_option linter.unusedSimpArgs false
set_option maxRecDepth 100000
set_option maxHeartbeats 16000000
def Zf.j1 (x2 : Int) (x32 : Bool) (a3 a4 a5 b1 a6 a7 a8 a9 b2 : Int) (b0 : Bool) : Option (TC) := if x32 = true then (some (a3, a4, a5, 4, a6, a7, a8, a9, b2, b0)) else ((Zq.f x2).bind fun b8 => (if b8 < 0 then ((Zb.f a3 a4 a5 b1 a6 a7 a8 a9 b2 b0 4).bind fun b3 => (some (b3.1, b3.2.1, b3.2.2.1, b3.2.2.2.1, b3.2.2.2.2.1, b3.2.2.2.2.2.1, b3.2.2.2.2.2.2.1, b3.2.2.2.2.2.2.2.1, b3.2.2.2.2.2.2.2.2.1, b3.2.2.2.2.2.2.2.2.2))) else (some (a3, a4, a5, b1, a6, a7, a8, a9, b2, b0))))
def Zf.j2 (x2 : Int) (b7 : Bool) (a3 a4 a5 b1 a6 a7 a8 a9 b2 : Int) (b0 : Bool) : Option (TC) := if b7 = true then ((Zb.f a3 a4 a5 b1 a6 a7 a8 a9 x2 b0 4).bind fun b4 => (some (b4.1, b4.2.1, b4.2.2.1, b4.2.2.2.1, b4.2.2.2.2.1, b4.2.2.2.2.2.1, b4.2.2.2.2.2.2.1, b4.2.2.2.2.2.2.2.1, b4.2.2.2.2.2.2.2.2.1, b4.2.2.2.2.2.2.2.2.2))) else (if a3 = 1 then (some (a3, a4, a5, 4, a6, a7, a8, a9, x2, b0)) else (some (a3, a4, a5, 7, a6, a7, a8, a9, x2, b0)))
def Zf.j0 (x2 : Int) (x20 : Bool) (a3 a4 a5 b1 a6 a7 a8 a9 b2 : Int) (b0 : Bool) : Option (TC) := if x20 = true then ((Zk.f a3 a4 a5 b1 a6 a7 a8 a9 b2 b0).bind fun b5 => (some (b5.1, b5.2.1, b5.2.2.1, b5.2.2.2.1, b5.2.2.2.2.1, b5.2.2.2.2.2.1, b5.2.2.2.2.2.2.1, b5.2.2.2.2.2.2.2.1, b5.2.2.2.2.2.2.2.2.1, b5.2.2.2.2.2.2.2.2.2))) else ((Zq.f x2).bind fun b9 => (if b9 < 0 then (Zf.j1 x2 (a3 == 1) a3 a4 a5 b1 a6 a7 a8 a9 b2 b0) else (Zf.j1 x2 false a3 a4 a5 b1 a6 a7 a8 a9 b2 b0)))
def Zf.f (s0_0 s0_1 s0_2 s0_3 s0_4 s0_5 s0_6 s0_7 s0_8 : Int) (s0_9 : Bool) (a1 a2 : Int) : Option (TC) := if a1 = 0 then ((Z1.f a2).bind fun c0 => (if c0 = true then (Zf.j0 a2 (s0_0 != 3) s0_0 s0_1 s0_2 s0_3 s0_4 a2 s0_6 s0_7 s0_8 s0_9) else (Zf.j0 a2 false s0_0 s0_1 s0_2 s0_3 s0_4 a2 s0_6 s0_7 s0_8 s0_9))) else (if a1 = 1 then ((Z1.f a2).bind fun c1 => (if c1 = true then (if s0_0 = 3 then (some (s0_0, s0_1, s0_2, s0_3, s0_4, s0_5, a2, s0_7, s0_8, s0_9)) else (some (s0_0, s0_1, s0_2, 3, s0_4, s0_5, a2, s0_7, s0_8, s0_9))) else (some (s0_0, s0_1, s0_2, s0_3, s0_4, s0_5, a2, s0_7, s0_8, s0_9)))) else (if a2 < s0_1 then ((Zq.f s0_5).bind fun c2 => ((Zl.f c2).bind fun c3 => (some (s0_0, s0_1, s0_2, 0, c3, s0_5, s0_6, s0_7, a2, s0_9)))) else (if s0_0 = 3 then ((Zb.f s0_0 s0_1 s0_2 s0_3 s0_4 s0_5 s0_6 s0_7 a2 s0_9 4).bind fun a0 => (if a2 = a0.2.1 then ((Z1.f a0.2.2.2.2.2.2.1).bind fun c4 => (if c4 = true then (some (a0.1, a0.2.1, a0.2.2.1, a0.2.2.2.1, a0.2.2.2.2.1, a0.2.2.2.2.2.1, a0.2.2.2.2.2.2.1, a0.2.2.2.2.2.2.2.1, a0.2.2.2.2.2.2.2.2.1, a0.2.2.2.2.2.2.2.2.2)) else ((Zb.f a0.1 a0.2.1 a0.2.2.1 a0.2.2.2.1 a0.2.2.2.2.1 a0.2.2.2.2.2.1 a0.2.2.2.2.2.2.1 a0.2.2.2.2.2.2.2.1 a0.2.2.2.2.2.2.2.2.1 a0.2.2.2.2.2.2.2.2.2 1).bind fun b6 => (some (b6.1, b6.2.1, b6.2.2.1, b6.2.2.2.1, b6.2.2.2.2.1, b6.2.2.2.2.2.1, b6.2.2.2.2.2.2.1, b6.2.2.2.2.2.2.2.1, b6.2.2.2.2.2.2.2.2.1, b6.2.2.2.2.2.2.2.2.2))))) else (some (a0.1, a0.2.1, a0.2.2.1, a0.2.2.2.1, a0.2.2.2.2.1, a0.2.2.2.2.2.1, a0.2.2.2.2.2.2.1, a0.2.2.2.2.2.2.2.1, a0.2.2.2.2.2.2.2.2.1, a0.2.2.2.2.2.2.2.2.2)))) else (if s0_0 = 1 then (if a2 = s0_1 then (Zf.j2 a2 true s0_0 s0_1 s0_2 s0_3 s0_4 s0_5 s0_6 s0_7 s0_8 s0_9) else (if s0_0 = 2 then (Zf.j2 a2 (a2 != s0_1) s0_0 s0_1 s0_2 s0_3 s0_4 s0_5 s0_6 s0_7 s0_8 s0_9) else (Zf.j2 a2 false s0_0 s0_1 s0_2 s0_3 s0_4 s0_5 s0_6 s0_7 s0_8 s0_9))) else (if s0_0 = 2 then (Zf.j2 a2 (a2 != s0_1) s0_0 s0_1 s0_2 s0_3 s0_4 s0_5 s0_6 s0_7 s0_8 s0_9) else (Zf.j2 a2 false s0_0 s0_1 s0_2 s0_3 s0_4 s0_5 s0_6 s0_7 s0_8 s0_9))))))
def Zf.F (s0_0 s0_1 s0_2 s0_3 s0_4 s0_5 s0_6 s0_7 s0_8 : Int) (s0_9 : Bool) (a1 a2 : Int) : TC := (Zf.f s0_0 s0_1 s0_2 s0_3 s0_4 s0_5 s0_6 s0_7 s0_8 s0_9 a1 a2).getD (0, 0, 0, 0, 0, 0, 0, 0, 0, false)
theorem Zf.j1.isS (x2 : Int) (x32 : Bool) (a3 a4 a5 b1 a6 a7 a8 a9 b2 : Int) (b0 : Bool) : ∃ r, Zf.j1 x2 x32 a3 a4 a5 b1 a6 a7 a8 a9 b2 b0 = some r := by
 unfold Zf.j1
 (try simp only [Zb.tot, Zq.tot, Zl.tot, Zk.tot, Z1.tot, Option.bind_some])
 repeat' (first | exact ⟨_, rfl⟩ | (exfalso; omega) | split)
theorem Zf.j2.isS (x2 : Int) (b7 : Bool) (a3 a4 a5 b1 a6 a7 a8 a9 b2 : Int) (b0 : Bool) : ∃ r, Zf.j2 x2 b7 a3 a4 a5 b1 a6 a7 a8 a9 b2 b0 = some r := by
 unfold Zf.j2
 (try simp only [Zb.tot, Zq.tot, Zl.tot, Zk.tot, Z1.tot, Option.bind_some])
 repeat' (first | exact ⟨_, rfl⟩ | exact Zf.j1.isS .. | (exfalso; omega) | split)
theorem Zf.j0.isS (x2 : Int) (x20 : Bool) (a3 a4 a5 b1 a6 a7 a8 a9 b2 : Int) (b0 : Bool) : ∃ r, Zf.j0 x2 x20 a3 a4 a5 b1 a6 a7 a8 a9 b2 b0 = some r := by
 unfold Zf.j0
 (try simp only [Zb.tot, Zq.tot, Zl.tot, Zk.tot, Z1.tot, Option.bind_some])
 repeat' (first | exact ⟨_, rfl⟩ | exact Zf.j1.isS .. | exact Zf.j2.isS .. | (exfalso; omega) | split)
theorem Zf.f.isS (s0_0 s0_1 s0_2 s0_3 s0_4 s0_5 s0_6 s0_7 s0_8 : Int) (s0_9 : Bool) (a1 a2 : Int) : ∃ r, Zf.f s0_0 s0_1 s0_2 s0_3 s0_4 s0_5 s0_6 s0_7 s0_8 s0_9 a1 a2 = some r := by
 unfold Zf.f
 (try simp only [Zb.tot, Zq.tot, Zl.tot, Zk.tot, Z1.tot, Option.bind_some])
 repeat' (first | exact ⟨_, rfl⟩ | exact Zf.j1.isS .. | exact Zf.j2.isS .. | exact Zf.j0.isS .. | (exfalso; omega) | split)
theorem Zf.tot (s0_0 s0_1 s0_2 s0_3 s0_4 s0_5 s0_6 s0_7 s0_8 : Int) (s0_9 : Bool) (a1 a2 : Int) : Zf.f s0_0 s0_1 s0_2 s0_3 s0_4 s0_5 s0_6 s0_7 s0_8 s0_9 a1 a2 = some (Zf.F s0_0 s0_1 s0_2 s0_3 s0_4 s0_5 s0_6 s0_7 s0_8 s0_9 a1 a2) := by
 obtain ⟨r, h⟩ := Zf.f.isS s0_0 s0_1 s0_2 s0_3 s0_4 s0_5 s0_6 s0_7 s0_8 s0_9 a1 a2
 unfold Zf.F
 rw [h]
 rfl
def Zf.g (cs : List AV) : List AV → Option (List AV × AV)
 | [ya1, ya2] => (dC (.agg cs)).bind fun c => (i1 ya1).bind fun a1 => (i1 ya2).bind fun a2 => some ([.int ((Zf.F c.f0 c.f1 c.f2 c.f3 c.f4 c.f5 c.f6 c.f7 c.f8 c.f9 a1 a2).1), .int ((Zf.F c.f0 c.f1 c.f2 c.f3 c.f4 c.f5 c.f6 c.f7 c.f8 c.f9 a1 a2).2.1), .int ((Zf.F c.f0 c.f1 c.f2 c.f3 c.f4 c.f5 c.f6 c.f7 c.f8 c.f9 a1 a2).2.2.1), .int ((Zf.F c.f0 c.f1 c.f2 c.f3 c.f4 c.f5 c.f6 c.f7 c.f8 c.f9 a1 a2).2.2.2.1), .int ((Zf.F c.f0 c.f1 c.f2 c.f3 c.f4 c.f5 c.f6 c.f7 c.f8 c.f9 a1 a2).2.2.2.2.1), .int ((Zf.F c.f0 c.f1 c.f2 c.f3 c.f4 c.f5 c.f6 c.f7 c.f8 c.f9 a1 a2).2.2.2.2.2.1), .int ((Zf.F c.f0 c.f1 c.f2 c.f3 c.f4 c.f5 c.f6 c.f7 c.f8 c.f9 a1 a2).2.2.2.2.2.2.1), .int ((Zf.F c.f0 c.f1 c.f2 c.f3 c.f4 c.f5 c.f6 c.f7 c.f8 c.f9 a1 a2).2.2.2.2.2.2.2.1), .int ((Zf.F c.f0 c.f1 c.f2 c.f3 c.f4 c.f5 c.f6 c.f7 c.f8 c.f9 a1 a2).2.2.2.2.2.2.2.2.1), .bool ((Zf.F c.f0 c.f1 c.f2 c.f3 c.f4 c.f5 c.f6 c.f7 c.f8 c.f9 a1 a2).2.2.2.2.2.2.2.2.2)], .tup [])
 | _ => none
theorem Zf.walk (s0_0 s0_1 s0_2 s0_3 s0_4 s0_5 s0_6 s0_7 s0_8 : Int) (s0_9 : Bool) (a1 a2 : Int) : ZeE 114 [(123, Zq.g), (122, Zl.g), (125, Z1.g)] [(53, Zb.g), (115, Zk.g)] 8 900 [.int s0_0, .int s0_1, .int s0_2, .int s0_3, .int s0_4, .int s0_5, .int s0_6, .int s0_7, .int s0_8, .bool s0_9] [.int a1, .int a2] (AV.vs R0 [.int ((Zf.F s0_0 s0_1 s0_2 s0_3 s0_4 s0_5 s0_6 s0_7 s0_8 s0_9 a1 a2).1), .int ((Zf.F s0_0 s0_1 s0_2 s0_3 s0_4 s0_5 s0_6 s0_7 s0_8 s0_9 a1 a2).2.1), .int ((Zf.F s0_0 s0_1 s0_2 s0_3 s0_4 s0_5 s0_6 s0_7 s0_8 s0_9 a1 a2).2.2.1), .int ((Zf.F s0_0 s0_1 s0_2 s0_3 s0_4 s0_5 s0_6 s0_7 s0_8 s0_9 a1 a2).2.2.2.1), .int ((Zf.F s0_0 s0_1 s0_2 s0_3 s0_4 s0_5 s0_6 s0_7 s0_8 s0_9 a1 a2).2.2.2.2.1), .int ((Zf.F s0_0 s0_1 s0_2 s0_3 s0_4 s0_5 s0_6 s0_7 s0_8 s0_9 a1 a2).2.2.2.2.2.1), .int ((Zf.F s0_0 s0_1 s0_2 s0_3 s0_4 s0_5 s0_6 s0_7 s0_8 s0_9 a1 a2).2.2.2.2.2.2.1), .int ((Zf.F s0_0 s0_1 s0_2 s0_3 s0_4 s0_5 s0_6 s0_7 s0_8 s0_9 a1 a2).2.2.2.2.2.2.2.1), .int ((Zf.F s0_0 s0_1 s0_2 s0_3 s0_4 s0_5 s0_6 s0_7 s0_8 s0_9 a1 a2).2.2.2.2.2.2.2.2.1), .bool ((Zf.F s0_0 s0_1 s0_2 s0_3 s0_4 s0_5 s0_6 s0_7 s0_8 s0_9 a1 a2).2.2.2.2.2.2.2.2.2)]) (.tuple #[]) := by
 refine w3 fun m' O hv hO => ⟨_, _, Tryz.func114, rfl, by kernel_rfl, Nat.le_of_ble_eq_true rfl, ?_⟩
 unfold Zb.g
 generalize hf0 : Zb.F = f0
 unfold Zq.g
 generalize hf1 : Zq.F = f1
 unfold Zl.g
 generalize hf2 : Zl.F = f2
 unfold Zk.g
 generalize hf3 : Zk.F = f3
 unfold Z1.g
 generalize hf4 : Z1.F = f4
 (try cbv)
 repeat' (apply And.intro <;> (try intro h) <;> (try cbv))
 all_goals (subst hv hO; subst hf0; subst hf1; subst hf2; subst hf3; subst hf4; (try simp only [Zb.F, Zb.f, Zk.F, Zk.f, Option.getD_some] at *); (try dsimp only [std] at *); (try simp only [nt_] at *)) <;> (first | rfl | exact ⟨rfl, rfl⟩ | (exfalso; omega) | (simp only [Zf.F, Zf.f, AV.v, AV.vs, ZZ, rowI, ZaA, Zb.F, Zb.f, Zq.tot, Zl.tot, Zk.F, Zk.f, Z1.tot, Zf.j1, Zf.j2, Zf.j0, nv_, reduceIte, *]; done) | (simp only [Zf.F, Zf.f, AV.v, AV.vs, ZZ, rowI, ZaA, Zb.F, Zb.f, Zq.tot, Zl.tot, Zk.F, Zk.f, Z1.tot, Zf.j1, Zf.j2, Zf.j0, nv_, reduceIte, *]; exact ⟨rfl, rfl⟩) | (simp_all (maxSteps := 1000000) [std, Zf.F, Zf.f, AV.v, AV.vs, ZZ, rowI, ZaA, Zb.F, Zb.f, Zq.tot, Zl.tot, Zk.F, Zk.f, Z1.tot, Zf.j1, Zf.j2, Zf.j0]; done) | (simp only [Zf.F, Zf.f, AV.v, AV.vs, ZZ, rowI, ZaA, Zb.F, Zb.f, Zq.tot, Zl.tot, Zk.F, Zk.f, Z1.tot, Zf.j1, Zf.j2, Zf.j0, nv_, reduceIte, *]; (repeat' split) <;> first | rfl | exact ⟨rfl, rfl⟩ | (exfalso; omega) | omega | (simp_all; done) | (simp_all; omega)) | (simp_all (maxSteps := 1000000) [std, Zf.F, Zf.f, AV.v, AV.vs, ZZ, rowI, ZaA, Zb.F, Zb.f, Zq.tot, Zl.tot, Zk.F, Zk.f, Z1.tot, Zf.j1, Zf.j2, Zf.j0]; (repeat' split) <;> first | rfl | exact ⟨rfl, rfl⟩ | (exfalso; omega) | omega | (simp_all; done) | (simp_all; omega)))
theorem Zf.me : Me 114 Zf.g := by
 refine ⟨⟨_, Tryz.func114, rfl, rfl⟩, fun R cs l cs' v hg => ?_⟩
 unfold Zf.g at hg
 split at hg
 ·rename_i ya1 ya2
  obtain ⟨c, e, hg⟩ := Option.bind_eq_some_iff.1 hg
  obtain ⟨a1, ea1, hg⟩ := Option.bind_eq_some_iff.1 hg
  obtain ⟨a2, ea2, hg⟩ := Option.bind_eq_some_iff.1 hg
  injection hg with hg
  injection hg with h1 h2
  subst h1 h2
  obtain ⟨d1, d2⟩ := Zcc e R
  refine ⟨d2.symm, fun w b ty hb => ?_⟩
  rw [d1] at hb
  have := (Zf.walk c.f0 c.f1 c.f2 c.f3 c.f4 c.f5 c.f6 c.f7 c.f8 c.f9 a1 a2).calls (all_cons Zq.fn (all_cons Zl.fn (all_cons Z1.fn ZW))) (ZaW Zb.me (ZaW Zk.me Zap)) w b ty hb
  simpa only [AV.vs, AV.v, i1_v R ea1, i1_v R ea2] using this
 ·cases hg
def Zau.f (b0 b1 b2 b3 b4 b5 b6 b7 b8 : Int) (b9 : Bool) (d0 d1 d2 d3 d4 d5 d6 d7 d8 : Int) (d9 : Bool) : Option (Bool) := if b0 = d0 then (if b1 = d1 then (if b2 = d2 then (if b3 = d3 then (if b4 = d4 then (if b5 = d5 then (if b6 = d6 then (if b7 = d7 then (if b8 = d8 then (if (b9 != d9) = true then (some false) else (some true)) else (some false)) else (some false)) else (some false)) else (some false)) else (some false)) else (some false)) else (some false)) else (some false)) else (some false)
def Zau.F (b0 b1 b2 b3 b4 b5 b6 b7 b8 : Int) (b9 : Bool) (d0 d1 d2 d3 d4 d5 d6 d7 d8 : Int) (d9 : Bool) : Bool := (Zau.f b0 b1 b2 b3 b4 b5 b6 b7 b8 b9 d0 d1 d2 d3 d4 d5 d6 d7 d8 d9).getD (false)
theorem Zau.f.isS (b0 b1 b2 b3 b4 b5 b6 b7 b8 : Int) (b9 : Bool) (d0 d1 d2 d3 d4 d5 d6 d7 d8 : Int) (d9 : Bool) : ∃ r, Zau.f b0 b1 b2 b3 b4 b5 b6 b7 b8 b9 d0 d1 d2 d3 d4 d5 d6 d7 d8 d9 = some r := by
 unfold Zau.f
 repeat' (first | exact ⟨_, rfl⟩ | (exfalso; omega) | split)
theorem Zau.tot (b0 b1 b2 b3 b4 b5 b6 b7 b8 : Int) (b9 : Bool) (d0 d1 d2 d3 d4 d5 d6 d7 d8 : Int) (d9 : Bool) : Zau.f b0 b1 b2 b3 b4 b5 b6 b7 b8 b9 d0 d1 d2 d3 d4 d5 d6 d7 d8 d9 = some (Zau.F b0 b1 b2 b3 b4 b5 b6 b7 b8 b9 d0 d1 d2 d3 d4 d5 d6 d7 d8 d9) := by
 obtain ⟨r, h⟩ := Zau.f.isS b0 b1 b2 b3 b4 b5 b6 b7 b8 b9 d0 d1 d2 d3 d4 d5 d6 d7 d8 d9
 unfold Zau.F
 rw [h]
 rfl
def Zau.g : List AV → Option AV
 | [x0, x1] => (dC x0).bind fun c0 => (dC x1).bind fun c1 => some (.bool (Zau.F c0.f0 c0.f1 c0.f2 c0.f3 c0.f4 c0.f5 c0.f6 c0.f7 c0.f8 c0.f9 c1.f0 c1.f1 c1.f2 c1.f3 c1.f4 c1.f5 c1.f6 c1.f7 c1.f8 c1.f9))
 | _ => none
theorem Zau.walk (b0 b1 b2 b3 b4 b5 b6 b7 b8 : Int) (b9 : Bool) (d0 d1 d2 d3 d4 d5 d6 d7 d8 : Int) (d9 : Bool) : Walk 116 [] 6 900 [.agg [.int b0, .int b1, .int b2, .int b3, .int b4, .int b5, .int b6, .int b7, .int b8, .bool b9], .agg [.int d0, .int d1, .int d2, .int d3, .int d4, .int d5, .int d6, .int d7, .int d8, .bool d9]] ((.bool (Zau.F b0 b1 b2 b3 b4 b5 b6 b7 b8 b9 d0 d1 d2 d3 d4 d5 d6 d7 d8 d9) : AV).v R0) := by
 refine w1 fun v O hv hO => ⟨_, _, Tryz.func116, rfl, by kernel_rfl, Nat.le_of_ble_eq_true rfl, ?_⟩
 (try cbv)
 repeat' (apply And.intro <;> (try intro h) <;> (try cbv))
 all_goals (subst hv hO; (try dsimp only [std] at *); (try simp only [nt_] at *)) <;> first | rfl | (simp only [Zau.F, Zau.f, AV.v, AV.vs, nv_, reduceIte, *]; done) | (simp_all (maxSteps := 1000000) [std, Zau.F, Zau.f, AV.v, AV.vs] <;> (repeat' split) <;> first | rfl | omega | (simp_all; done) | (simp_all; omega))
theorem Zau.fn : Fn 116 Zau.g := by
 refine ⟨⟨_, Tryz.func116, rfl, rfl⟩, fun R l v hg w => ?_⟩
 unfold Zau.g at hg
 split at hg
 ·rename_i x0 x1
  obtain ⟨c0, e0, hg⟩ := Option.bind_eq_some_iff.1 hg
  obtain ⟨c1, e1, hg⟩ := Option.bind_eq_some_iff.1 hg
  injection hg with hg
  subst hg
  have := (Zau.walk c0.f0 c0.f1 c0.f2 c0.f3 c0.f4 c0.f5 c0.f6 c0.f7 c0.f8 c0.f9 c1.f0 c1.f1 c1.f2 c1.f3 c1.f4 c1.f5 c1.f6 c1.f7 c1.f8 c1.f9).calls ZW w
  simpa only [AV.vs, AV.v, clA, dC_v R e0, dC_v R e1] using this
 ·cases hg
end Go.Proofs.YtgghglocfdcegaaGreat.Xec
