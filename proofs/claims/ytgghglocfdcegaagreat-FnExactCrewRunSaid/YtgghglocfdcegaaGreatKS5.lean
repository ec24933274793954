/- Part S5 of the proof of FnExactCrewStep and FnExactCrewRun (wip/xec, pack.py). No condition. -/
import Derived.Test.YtgghglocfdcegaaGreatKF
import Derived.Test.YtgghglocfdcegaaGreatKE
namespace Go.Proofs.YtgghglocfdcegaaGreat.Xec
open Go Go.RowKit Go.Proofs.YtgghglocfdcegaaGreat.PFnExactCrewRun Go.Proofs.YtgghglocfdcegaaGreatW.PrintWords
set_option linter.unusedVariables false
set_option linter.unusedSimpArgs false
set_option maxRecDepth 100000
set_option maxHeartbeats 16000000
def Zh.j1 (x2 : Int) (x32 : Bool) (a3 a4 a5 b1 a6 a7 a8 a9 b2 : Int) (b0 : Bool) : Option (TC) := if x32 = true then (some (a3, a4, a5, 4, a6, a7, a8, a9, b2, b0)) else ((Zr.f x2).bind fun b8 => (if b8 < 0 then ((Zb.f a3 a4 a5 b1 a6 a7 a8 a9 b2 b0 4).bind fun b3 => (some (b3.1, b3.2.1, b3.2.2.1, b3.2.2.2.1, b3.2.2.2.2.1, b3.2.2.2.2.2.1, b3.2.2.2.2.2.2.1, b3.2.2.2.2.2.2.2.1, b3.2.2.2.2.2.2.2.2.1, b3.2.2.2.2.2.2.2.2.2))) else (some (a3, a4, a5, b1, a6, a7, a8, a9, b2, b0))))
def Zh.j2 (x2 : Int) (b7 : Bool) (a3 a4 a5 b1 a6 a7 a8 a9 b2 : Int) (b0 : Bool) : Option (TC) := if b7 = true then ((Zb.f a3 a4 a5 b1 a6 a7 a8 a9 x2 b0 4).bind fun b4 => (some (b4.1, b4.2.1, b4.2.2.1, b4.2.2.2.1, b4.2.2.2.2.1, b4.2.2.2.2.2.1, b4.2.2.2.2.2.2.1, b4.2.2.2.2.2.2.2.1, b4.2.2.2.2.2.2.2.2.1, b4.2.2.2.2.2.2.2.2.2))) else (if a3 = 1 then (some (a3, a4, a5, 4, a6, a7, a8, a9, x2, b0)) else (some (a3, a4, a5, 7, a6, a7, a8, a9, x2, b0)))
def Zh.j0 (x2 : Int) (x20 : Bool) (a3 a4 a5 b1 a6 a7 a8 a9 b2 : Int) (b0 : Bool) : Option (TC) := if x20 = true then ((Zi.f a3 a4 a5 b1 a6 a7 a8 a9 b2 b0).bind fun b5 => (some (b5.1, b5.2.1, b5.2.2.1, b5.2.2.2.1, b5.2.2.2.2.1, b5.2.2.2.2.2.1, b5.2.2.2.2.2.2.1, b5.2.2.2.2.2.2.2.1, b5.2.2.2.2.2.2.2.2.1, b5.2.2.2.2.2.2.2.2.2))) else ((Zr.f x2).bind fun b9 => (if b9 < 0 then (Zh.j1 x2 (a3 == 1) a3 a4 a5 b1 a6 a7 a8 a9 b2 b0) else (Zh.j1 x2 false a3 a4 a5 b1 a6 a7 a8 a9 b2 b0)))
def Zh.f (s0_0 s0_1 s0_2 s0_3 s0_4 s0_5 s0_6 s0_7 s0_8 : Int) (s0_9 : Bool) (a1 a2 : Int) : Option (TC) := if a1 = 0 then ((Z5.f a2).bind fun c0 => (if c0 = true then (Zh.j0 a2 (s0_0 != 3) s0_0 s0_1 s0_2 s0_3 s0_4 a2 s0_6 s0_7 s0_8 s0_9) else (Zh.j0 a2 false s0_0 s0_1 s0_2 s0_3 s0_4 a2 s0_6 s0_7 s0_8 s0_9))) else (if a1 = 1 then ((Z5.f a2).bind fun c1 => (if c1 = true then (if s0_0 = 3 then (some (s0_0, s0_1, s0_2, s0_3, s0_4, s0_5, a2, s0_7, s0_8, s0_9)) else (some (s0_0, s0_1, s0_2, 3, s0_4, s0_5, a2, s0_7, s0_8, s0_9))) else (some (s0_0, s0_1, s0_2, s0_3, s0_4, s0_5, a2, s0_7, s0_8, s0_9)))) else (if a2 < s0_1 then ((Zr.f s0_5).bind fun c2 => ((Zn.f c2).bind fun c3 => (some (s0_0, s0_1, s0_2, 0, c3, s0_5, s0_6, s0_7, a2, s0_9)))) else (if s0_0 = 3 then ((Zb.f s0_0 s0_1 s0_2 s0_3 s0_4 s0_5 s0_6 s0_7 a2 s0_9 4).bind fun a0 => (if a2 = a0.2.1 then ((Z5.f a0.2.2.2.2.2.2.1).bind fun c4 => (if c4 = true then (some (a0.1, a0.2.1, a0.2.2.1, a0.2.2.2.1, a0.2.2.2.2.1, a0.2.2.2.2.2.1, a0.2.2.2.2.2.2.1, a0.2.2.2.2.2.2.2.1, a0.2.2.2.2.2.2.2.2.1, a0.2.2.2.2.2.2.2.2.2)) else ((Zb.f a0.1 a0.2.1 a0.2.2.1 a0.2.2.2.1 a0.2.2.2.2.1 a0.2.2.2.2.2.1 a0.2.2.2.2.2.2.1 a0.2.2.2.2.2.2.2.1 a0.2.2.2.2.2.2.2.2.1 a0.2.2.2.2.2.2.2.2.2 1).bind fun b6 => (some (b6.1, b6.2.1, b6.2.2.1, b6.2.2.2.1, b6.2.2.2.2.1, b6.2.2.2.2.2.1, b6.2.2.2.2.2.2.1, b6.2.2.2.2.2.2.2.1, b6.2.2.2.2.2.2.2.2.1, b6.2.2.2.2.2.2.2.2.2))))) else (some (a0.1, a0.2.1, a0.2.2.1, a0.2.2.2.1, a0.2.2.2.2.1, a0.2.2.2.2.2.1, a0.2.2.2.2.2.2.1, a0.2.2.2.2.2.2.2.1, a0.2.2.2.2.2.2.2.2.1, a0.2.2.2.2.2.2.2.2.2)))) else (if s0_0 = 1 then (if a2 = s0_1 then (Zh.j2 a2 true s0_0 s0_1 s0_2 s0_3 s0_4 s0_5 s0_6 s0_7 s0_8 s0_9) else (if s0_0 = 2 then (Zh.j2 a2 (a2 != s0_1) s0_0 s0_1 s0_2 s0_3 s0_4 s0_5 s0_6 s0_7 s0_8 s0_9) else (Zh.j2 a2 false s0_0 s0_1 s0_2 s0_3 s0_4 s0_5 s0_6 s0_7 s0_8 s0_9))) else (if s0_0 = 2 then (Zh.j2 a2 (a2 != s0_1) s0_0 s0_1 s0_2 s0_3 s0_4 s0_5 s0_6 s0_7 s0_8 s0_9) else (Zh.j2 a2 false s0_0 s0_1 s0_2 s0_3 s0_4 s0_5 s0_6 s0_7 s0_8 s0_9))))))
def Zh.F (s0_0 s0_1 s0_2 s0_3 s0_4 s0_5 s0_6 s0_7 s0_8 : Int) (s0_9 : Bool) (a1 a2 : Int) : TC := (Zh.f s0_0 s0_1 s0_2 s0_3 s0_4 s0_5 s0_6 s0_7 s0_8 s0_9 a1 a2).getD (0, 0, 0, 0, 0, 0, 0, 0, 0, false)
theorem Zh.j1.isS (x2 : Int) (x32 : Bool) (a3 a4 a5 b1 a6 a7 a8 a9 b2 : Int) (b0 : Bool) : ∃ r, Zh.j1 x2 x32 a3 a4 a5 b1 a6 a7 a8 a9 b2 b0 = some r := by
 unfold Zh.j1
 (try simp only [Zb.tot, Zr.tot, Zn.tot, Zi.tot, Z5.tot, Option.bind_some])
 repeat' (first | exact ⟨_, rfl⟩ | (exfalso; omega) | split)
theorem Zh.j2.isS (x2 : Int) (b7 : Bool) (a3 a4 a5 b1 a6 a7 a8 a9 b2 : Int) (b0 : Bool) : ∃ r, Zh.j2 x2 b7 a3 a4 a5 b1 a6 a7 a8 a9 b2 b0 = some r := by
 unfold Zh.j2
 (try simp only [Zb.tot, Zr.tot, Zn.tot, Zi.tot, Z5.tot, Option.bind_some])
 repeat' (first | exact ⟨_, rfl⟩ | exact Zh.j1.isS .. | (exfalso; omega) | split)
theorem Zh.j0.isS (x2 : Int) (x20 : Bool) (a3 a4 a5 b1 a6 a7 a8 a9 b2 : Int) (b0 : Bool) : ∃ r, Zh.j0 x2 x20 a3 a4 a5 b1 a6 a7 a8 a9 b2 b0 = some r := by
 unfold Zh.j0
 (try simp only [Zb.tot, Zr.tot, Zn.tot, Zi.tot, Z5.tot, Option.bind_some])
 repeat' (first | exact ⟨_, rfl⟩ | exact Zh.j1.isS .. | exact Zh.j2.isS .. | (exfalso; omega) | split)
theorem Zh.f.isS (s0_0 s0_1 s0_2 s0_3 s0_4 s0_5 s0_6 s0_7 s0_8 : Int) (s0_9 : Bool) (a1 a2 : Int) : ∃ r, Zh.f s0_0 s0_1 s0_2 s0_3 s0_4 s0_5 s0_6 s0_7 s0_8 s0_9 a1 a2 = some r := by
 unfold Zh.f
 (try simp only [Zb.tot, Zr.tot, Zn.tot, Zi.tot, Z5.tot, Option.bind_some])
 repeat' (first | exact ⟨_, rfl⟩ | exact Zh.j1.isS .. | exact Zh.j2.isS .. | exact Zh.j0.isS .. | (exfalso; omega) | split)
theorem Zh.tot (s0_0 s0_1 s0_2 s0_3 s0_4 s0_5 s0_6 s0_7 s0_8 : Int) (s0_9 : Bool) (a1 a2 : Int) : Zh.f s0_0 s0_1 s0_2 s0_3 s0_4 s0_5 s0_6 s0_7 s0_8 s0_9 a1 a2 = some (Zh.F s0_0 s0_1 s0_2 s0_3 s0_4 s0_5 s0_6 s0_7 s0_8 s0_9 a1 a2) := by
 obtain ⟨r, h⟩ := Zh.f.isS s0_0 s0_1 s0_2 s0_3 s0_4 s0_5 s0_6 s0_7 s0_8 s0_9 a1 a2
 unfold Zh.F
 rw [h]
 rfl
def Zh.g (cs : List AV) : List AV → Option (List AV × AV)
 | [ya1, ya2] => (dC (.agg cs)).bind fun c => (i1 ya1).bind fun a1 => (i1 ya2).bind fun a2 => some ([.int ((Zh.F c.f0 c.f1 c.f2 c.f3 c.f4 c.f5 c.f6 c.f7 c.f8 c.f9 a1 a2).1), .int ((Zh.F c.f0 c.f1 c.f2 c.f3 c.f4 c.f5 c.f6 c.f7 c.f8 c.f9 a1 a2).2.1), .int ((Zh.F c.f0 c.f1 c.f2 c.f3 c.f4 c.f5 c.f6 c.f7 c.f8 c.f9 a1 a2).2.2.1), .int ((Zh.F c.f0 c.f1 c.f2 c.f3 c.f4 c.f5 c.f6 c.f7 c.f8 c.f9 a1 a2).2.2.2.1), .int ((Zh.F c.f0 c.f1 c.f2 c.f3 c.f4 c.f5 c.f6 c.f7 c.f8 c.f9 a1 a2).2.2.2.2.1), .int ((Zh.F c.f0 c.f1 c.f2 c.f3 c.f4 c.f5 c.f6 c.f7 c.f8 c.f9 a1 a2).2.2.2.2.2.1), .int ((Zh.F c.f0 c.f1 c.f2 c.f3 c.f4 c.f5 c.f6 c.f7 c.f8 c.f9 a1 a2).2.2.2.2.2.2.1), .int ((Zh.F c.f0 c.f1 c.f2 c.f3 c.f4 c.f5 c.f6 c.f7 c.f8 c.f9 a1 a2).2.2.2.2.2.2.2.1), .int ((Zh.F c.f0 c.f1 c.f2 c.f3 c.f4 c.f5 c.f6 c.f7 c.f8 c.f9 a1 a2).2.2.2.2.2.2.2.2.1), .bool ((Zh.F c.f0 c.f1 c.f2 c.f3 c.f4 c.f5 c.f6 c.f7 c.f8 c.f9 a1 a2).2.2.2.2.2.2.2.2.2)], .tup [])
 | _ => none
theorem Zh.walk (s0_0 s0_1 s0_2 s0_3 s0_4 s0_5 s0_6 s0_7 s0_8 : Int) (s0_9 : Bool) (a1 a2 : Int) : ZeE 114 [(123, Zr.g), (122, Zn.g), (125, Z5.g)] [(53, Zb.g), (115, Zi.g)] 8 900 [.int s0_0, .int s0_1, .int s0_2, .int s0_3, .int s0_4, .int s0_5, .int s0_6, .int s0_7, .int s0_8, .bool s0_9] [.int a1, .int a2] (AV.vs R0 [.int ((Zh.F s0_0 s0_1 s0_2 s0_3 s0_4 s0_5 s0_6 s0_7 s0_8 s0_9 a1 a2).1), .int ((Zh.F s0_0 s0_1 s0_2 s0_3 s0_4 s0_5 s0_6 s0_7 s0_8 s0_9 a1 a2).2.1), .int ((Zh.F s0_0 s0_1 s0_2 s0_3 s0_4 s0_5 s0_6 s0_7 s0_8 s0_9 a1 a2).2.2.1), .int ((Zh.F s0_0 s0_1 s0_2 s0_3 s0_4 s0_5 s0_6 s0_7 s0_8 s0_9 a1 a2).2.2.2.1), .int ((Zh.F s0_0 s0_1 s0_2 s0_3 s0_4 s0_5 s0_6 s0_7 s0_8 s0_9 a1 a2).2.2.2.2.1), .int ((Zh.F s0_0 s0_1 s0_2 s0_3 s0_4 s0_5 s0_6 s0_7 s0_8 s0_9 a1 a2).2.2.2.2.2.1), .int ((Zh.F s0_0 s0_1 s0_2 s0_3 s0_4 s0_5 s0_6 s0_7 s0_8 s0_9 a1 a2).2.2.2.2.2.2.1), .int ((Zh.F s0_0 s0_1 s0_2 s0_3 s0_4 s0_5 s0_6 s0_7 s0_8 s0_9 a1 a2).2.2.2.2.2.2.2.1), .int ((Zh.F s0_0 s0_1 s0_2 s0_3 s0_4 s0_5 s0_6 s0_7 s0_8 s0_9 a1 a2).2.2.2.2.2.2.2.2.1), .bool ((Zh.F s0_0 s0_1 s0_2 s0_3 s0_4 s0_5 s0_6 s0_7 s0_8 s0_9 a1 a2).2.2.2.2.2.2.2.2.2)]) (.tuple #[]) := by
 refine w3 fun m' O hv hO => ⟨_, _, Tryz.func114, rfl, by kernel_rfl, Nat.le_of_ble_eq_true rfl, ?_⟩
 unfold Zb.g
 generalize hf0 : Zb.F = f0
 unfold Zr.g
 generalize hf1 : Zr.F = f1
 unfold Zn.g
 generalize hf2 : Zn.F = f2
 unfold Zi.g
 generalize hf3 : Zi.F = f3
 unfold Z5.g
 generalize hf4 : Z5.F = f4
 (try cbv)
 repeat' (apply And.intro <;> (try intro h) <;> (try cbv))
 all_goals (subst hv hO; subst hf0; subst hf1; subst hf2; subst hf3; subst hf4; (try simp only [Zb.F, Zb.f, Zi.F, Zi.f, Option.getD_some] at *); (try dsimp only [std] at *); (try simp only [nt_] at *)) <;> (first | rfl | exact ⟨rfl, rfl⟩ | (exfalso; omega) | (simp only [Zh.F, Zh.f, AV.v, AV.vs, ZT, rowI, Zav, Zb.F, Zb.f, Zr.tot, Zn.tot, Zi.F, Zi.f, Z5.tot, Zh.j1, Zh.j2, Zh.j0, nv_, reduceIte, *]; done) | (simp only [Zh.F, Zh.f, AV.v, AV.vs, ZT, rowI, Zav, Zb.F, Zb.f, Zr.tot, Zn.tot, Zi.F, Zi.f, Z5.tot, Zh.j1, Zh.j2, Zh.j0, nv_, reduceIte, *]; exact ⟨rfl, rfl⟩) | (simp_all (maxSteps := 1000000) [std, Zh.F, Zh.f, AV.v, AV.vs, ZT, rowI, Zav, Zb.F, Zb.f, Zr.tot, Zn.tot, Zi.F, Zi.f, Z5.tot, Zh.j1, Zh.j2, Zh.j0]; done) | (simp only [Zh.F, Zh.f, AV.v, AV.vs, ZT, rowI, Zav, Zb.F, Zb.f, Zr.tot, Zn.tot, Zi.F, Zi.f, Z5.tot, Zh.j1, Zh.j2, Zh.j0, nv_, reduceIte, *]; (repeat' split) <;> first | rfl | exact ⟨rfl, rfl⟩ | (exfalso; omega) | omega | (simp_all; done) | (simp_all; omega)) | (simp_all (maxSteps := 1000000) [std, Zh.F, Zh.f, AV.v, AV.vs, ZT, rowI, Zav, Zb.F, Zb.f, Zr.tot, Zn.tot, Zi.F, Zi.f, Z5.tot, Zh.j1, Zh.j2, Zh.j0]; (repeat' split) <;> first | rfl | exact ⟨rfl, rfl⟩ | (exfalso; omega) | omega | (simp_all; done) | (simp_all; omega)))
theorem Zh.me : Me 114 Zh.g := by
 refine ⟨⟨_, Tryz.func114, rfl, rfl⟩, fun R cs l cs' v hg => ?_⟩
 unfold Zh.g at hg
 split at hg
 ·rename_i ya1 ya2
  obtain ⟨c, e, hg⟩ := Option.bind_eq_some_iff.1 hg
  obtain ⟨a1, ea1, hg⟩ := Option.bind_eq_some_iff.1 hg
  obtain ⟨a2, ea2, hg⟩ := Option.bind_eq_some_iff.1 hg
  injection hg with hg
  injection hg with h1 h2
  subst h1 h2
  obtain ⟨d1, d2⟩ := Zcc e R
  refine ⟨d2.symm, fun w b ty hb => ?_⟩
  rw [d1] at hb
  have := (Zh.walk c.f0 c.f1 c.f2 c.f3 c.f4 c.f5 c.f6 c.f7 c.f8 c.f9 a1 a2).calls (all_cons Zr.fn (all_cons Zn.fn (all_cons Z5.fn ZX))) (ZaW Zb.me (ZaW Zi.me Zaq)) w b ty hb
  simpa only [AV.vs, AV.v, i1_v R ea1, i1_v R ea2] using this
 ·cases hg
def Zau.f (b0 b1 b2 b3 b4 b5 b6 b7 b8 : Int) (b9 : Bool) (d0 d1 d2 d3 d4 d5 d6 d7 d8 : Int) (d9 : Bool) : Option (Bool) := if b0 = d0 then (if b1 = d1 then (if b2 = d2 then (if b3 = d3 then (if b4 = d4 then (if b5 = d5 then (if b6 = d6 then (if b7 = d7 then (if b8 = d8 then (if (b9 != d9) = true then (some false) else (some true)) else (some false)) else (some false)) else (some false)) else (some false)) else (some false)) else (some false)) else (some false)) else (some false)) else (some false)
def Zau.F (b0 b1 b2 b3 b4 b5 b6 b7 b8 : Int) (b9 : Bool) (d0 d1 d2 d3 d4 d5 d6 d7 d8 : Int) (d9 : Bool) : Bool := (Zau.f b0 b1 b2 b3 b4 b5 b6 b7 b8 b9 d0 d1 d2 d3 d4 d5 d6 d7 d8 d9).getD (false)
theorem Zau.f.isS (b0 b1 b2 b3 b4 b5 b6 b7 b8 : Int) (b9 : Bool) (d0 d1 d2 d3 d4 d5 d6 d7 d8 : Int) (d9 : Bool) : ∃ r, Zau.f b0 b1 b2 b3 b4 b5 b6 b7 b8 b9 d0 d1 d2 d3 d4 d5 d6 d7 d8 d9 = some r := by
 unfold Zau.f
 repeat' (first | exact ⟨_, rfl⟩ | (exfalso; omega) | split)
theorem Zau.tot (b0 b1 b2 b3 b4 b5 b6 b7 b8 : Int) (b9 : Bool) (d0 d1 d2 d3 d4 d5 d6 d7 d8 : Int) (d9 : Bool) : Zau.f b0 b1 b2 b3 b4 b5 b6 b7 b8 b9 d0 d1 d2 d3 d4 d5 d6 d7 d8 d9 = some (Zau.F b0 b1 b2 b3 b4 b5 b6 b7 b8 b9 d0 d1 d2 d3 d4 d5 d6 d7 d8 d9) := by
 obtain ⟨r, h⟩ := Zau.f.isS b0 b1 b2 b3 b4 b5 b6 b7 b8 b9 d0 d1 d2 d3 d4 d5 d6 d7 d8 d9
 unfold Zau.F
 rw [h]
 rfl
def Zau.g : List AV → Option AV
 | [x0, x1] => (dC x0).bind fun c0 => (dC x1).bind fun c1 => some (.bool (Zau.F c0.f0 c0.f1 c0.f2 c0.f3 c0.f4 c0.f5 c0.f6 c0.f7 c0.f8 c0.f9 c1.f0 c1.f1 c1.f2 c1.f3 c1.f4 c1.f5 c1.f6 c1.f7 c1.f8 c1.f9))
 | _ => none
theorem Zau.walk (b0 b1 b2 b3 b4 b5 b6 b7 b8 : Int) (b9 : Bool) (d0 d1 d2 d3 d4 d5 d6 d7 d8 : Int) (d9 : Bool) : Walk 116 [] 6 900 [.agg [.int b0, .int b1, .int b2, .int b3, .int b4, .int b5, .int b6, .int b7, .int b8, .bool b9], .agg [.int d0, .int d1, .int d2, .int d3, .int d4, .int d5, .int d6, .int d7, .int d8, .bool d9]] ((.bool (Zau.F b0 b1 b2 b3 b4 b5 b6 b7 b8 b9 d0 d1 d2 d3 d4 d5 d6 d7 d8 d9) : AV).v R0) := by
 refine w1 fun v O hv hO => ⟨_, _, Tryz.func116, rfl, by kernel_rfl, Nat.le_of_ble_eq_true rfl, ?_⟩
 (try cbv)
 repeat' (apply And.intro <;> (try intro h) <;> (try cbv))
 all_goals (subst hv hO; (try dsimp only [std] at *); (try simp only [nt_] at *)) <;> first | rfl | (simp only [Zau.F, Zau.f, AV.v, AV.vs, nv_, reduceIte, *]; done) | (simp_all (maxSteps := 1000000) [std, Zau.F, Zau.f, AV.v, AV.vs] <;> (repeat' split) <;> first | rfl | omega | (simp_all; done) | (simp_all; omega))
theorem Zau.fn : Fn 116 Zau.g := by
 refine ⟨⟨_, Tryz.func116, rfl, rfl⟩, fun R l v hg w => ?_⟩
 unfold Zau.g at hg
 split at hg
 ·rename_i x0 x1
  obtain ⟨c0, e0, hg⟩ := Option.bind_eq_some_iff.1 hg
  obtain ⟨c1, e1, hg⟩ := Option.bind_eq_some_iff.1 hg
  injection hg with hg
  subst hg
  have := (Zau.walk c0.f0 c0.f1 c0.f2 c0.f3 c0.f4 c0.f5 c0.f6 c0.f7 c0.f8 c0.f9 c1.f0 c1.f1 c1.f2 c1.f3 c1.f4 c1.f5 c1.f6 c1.f7 c1.f8 c1.f9).calls ZX w
  simpa only [AV.vs, AV.v, clA, dC_v R e0, dC_v R e1] using this
 ·cases hg
end Go.Proofs.YtgghglocfdcegaaGreat.Xec
