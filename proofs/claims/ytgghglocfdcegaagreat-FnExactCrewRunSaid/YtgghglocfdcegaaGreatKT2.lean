/- Part T2 of the proof of FnExactCrewStep and FnExactCrewRun (wip/xec, pack.py). No condition. -/
import Derived.Test.YtgghglocfdcegaaGreatKG
import Derived.Test.YtgghglocfdcegaaGreatKF
import Derived.Test.YtgghglocfdcegaaGreatKS2
namespace Go.Proofs.YtgghglocfdcegaaGreat.Xec
open Go Go.RowKit Go.Proofs.YtgghglocfdcegaaGreat.PFnExactCrewRun Go.Proofs.YtgghglocfdcegaaGreatW.PrintWords
set_option linter.unusedVariables false
set_option linter.unusedSimpArgs false
set_option maxRecDepth 100000
set_option maxHeartbeats 16000000
def Zg.j3 (a2 a3 a4 a1 a5 a9 c0 a6 a7 : Int) (a8 : Bool) (c2 : List Int) : Option (TL) := some (c2, a2, a3, a4, a1, a5, a9, c0, a6, a7, a8, true)
def Zg.j2 (x14 : Int) (x85 : Bool) (a2 a3 a4 a1 a5 a9 c0 a6 a7 : Int) (a8 : Bool) (c2 : List Int) : Option (TL) := if x85 = true then ((Zb.f a2 a3 a4 a1 a5 a9 c0 a6 a7 a8 1).bind fun c1 => (if c1.1 = 2 then ((Zab.f c1.2.2.2.2.2.2.1).bind fun d2 => (Zg.j3 c1.1 c1.2.1 c1.2.2.1 c1.2.2.2.1 c1.2.2.2.2.1 c1.2.2.2.2.2.1 c1.2.2.2.2.2.2.1 c1.2.2.2.2.2.2.2.1 d2.1 c1.2.2.2.2.2.2.2.2.2 c2)) else (Zg.j3 c1.1 c1.2.1 c1.2.2.1 c1.2.2.2.1 c1.2.2.2.2.1 c1.2.2.2.2.2.1 c1.2.2.2.2.2.2.1 c1.2.2.2.2.2.2.2.1 c1.2.2.2.2.2.2.2.2.1 c1.2.2.2.2.2.2.2.2.2 c2))) else (if x14 = 2 then (Zg.j3 a2 a3 a4 0 a5 a9 c0 a6 a7 a8 c2) else (Zg.j3 a2 a3 a4 a1 a5 a9 c0 a6 a7 a8 c2))
def Zg.j1 (x12 x14 : Int) (x72 : Bool) (a2 a3 a4 a1 a5 a9 c0 a6 a7 : Int) (a8 : Bool) (c2 : List Int) : Option (TL) := if x72 = true then ((impl_within.f x12 0 1048575).bind fun d3 => (if d3 = true then (Zg.j3 a2 a3 a4 a1 a5 x12 c0 a6 a7 a8 c2) else (Zg.j3 a2 a3 a4 a1 a5 0 c0 a6 a7 a8 c2))) else (if x14 = 2 then (Zg.j2 x14 (x12 == 1) a2 a3 a4 a1 a5 a9 c0 a6 a7 a8 c2) else (Zg.j2 x14 false a2 a3 a4 a1 a5 a9 c0 a6 a7 a8 c2))
def Zg.j0 (x32 : Bool) (c7 : List Int) (a2 a3 a4 a1 a5 a9 c0 a6 a7 : Int) (a8 : Bool) (c8 c9 d0 d1 : Int) : Option (TL) := if x32 = true then (some (([] : List Int), 0, 0, 0, 0, 0, 0, 0, 0, 0, false, false)) else ((Do.f c7 c8 c9 d0 d1).bind fun c4 => (if c4.2.2 = true then (if a1 = 0 then ((Zaq.f c4.2.1).bind fun c6 => ((Zab.f c6).bind fun d4 => (if a2 = 2 then (if d4.1 < 0 then ((Zb.f a2 a3 a4 (wrap64 (a1 + 1)) a5 a9 c6 a6 a7 a8 2).bind fun c3 => (Zg.j3 c3.1 c3.2.1 c3.2.2.1 c3.2.2.2.1 c3.2.2.2.2.1 c3.2.2.2.2.2.1 c3.2.2.2.2.2.2.1 c3.2.2.2.2.2.2.2.1 c3.2.2.2.2.2.2.2.2.1 c3.2.2.2.2.2.2.2.2.2 c4.1)) else (Zg.j3 a2 a3 a4 (wrap64 (a1 + 1)) a5 a9 c6 a6 a7 a8 c4.1)) else (Zg.j3 a2 a3 a4 (wrap64 (a1 + 1)) a5 a9 c6 a6 a7 a8 c4.1)))) else (if a1 = 1 then (Zg.j1 c4.2.1 a1 (a2 == 2) a2 a3 a4 (wrap64 (a1 + 1)) a5 a9 c0 a6 a7 a8 c4.1) else (Zg.j1 c4.2.1 a1 false a2 a3 a4 (wrap64 (a1 + 1)) a5 a9 c0 a6 a7 a8 c4.1))) else (some (([] : List Int), 0, 0, 0, 0, 0, 0, 0, 0, 0, false, false))))
def Zg.f (a0 : Int) (l1_0 : List Int) (b0 b1 b2 b3 b4 b5 b6 b7 b8 : Int) (b9 : Bool) : Option (TL) := (Zi.f a0 b0 b1 b2 b3 b4 b5 b6 b7 b8 b9).bind fun c5 => (if c5.2.2.2.2 = true then (Zg.j0 ((l1_0.length : Int) != (wrap64 (1 + a0))) l1_0 b0 b1 b2 b3 b4 b5 b6 b7 b8 b9 c5.1 c5.2.1 c5.2.2.1 c5.2.2.2.1) else (Zg.j0 true l1_0 b0 b1 b2 b3 b4 b5 b6 b7 b8 b9 c5.1 c5.2.1 c5.2.2.1 c5.2.2.2.1))
def Zg.F (a0 : Int) (l1_0 : List Int) (b0 b1 b2 b3 b4 b5 b6 b7 b8 : Int) (b9 : Bool) : TL := (Zg.f a0 l1_0 b0 b1 b2 b3 b4 b5 b6 b7 b8 b9).getD ([], 0, 0, 0, 0, 0, 0, 0, 0, 0, false, false)
theorem Zg.j3.isS (a2 a3 a4 a1 a5 a9 c0 a6 a7 : Int) (a8 : Bool) (c2 : List Int) : ∃ r, Zg.j3 a2 a3 a4 a1 a5 a9 c0 a6 a7 a8 c2 = some r := by
 unfold Zg.j3
 (try simp only [impl_within.tot, Zb.tot, Zab.tot, Zi.tot, Do.tot, Zaq.tot, Option.bind_some])
 repeat' (first | exact ⟨_, rfl⟩ | (exfalso; omega) | split)
theorem Zg.j2.isS (x14 : Int) (x85 : Bool) (a2 a3 a4 a1 a5 a9 c0 a6 a7 : Int) (a8 : Bool) (c2 : List Int) : ∃ r, Zg.j2 x14 x85 a2 a3 a4 a1 a5 a9 c0 a6 a7 a8 c2 = some r := by
 unfold Zg.j2
 (try simp only [impl_within.tot, Zb.tot, Zab.tot, Zi.tot, Do.tot, Zaq.tot, Option.bind_some])
 repeat' (first | exact ⟨_, rfl⟩ | exact Zg.j3.isS .. | (exfalso; omega) | split)
theorem Zg.j1.isS (x12 x14 : Int) (x72 : Bool) (a2 a3 a4 a1 a5 a9 c0 a6 a7 : Int) (a8 : Bool) (c2 : List Int) : ∃ r, Zg.j1 x12 x14 x72 a2 a3 a4 a1 a5 a9 c0 a6 a7 a8 c2 = some r := by
 unfold Zg.j1
 (try simp only [impl_within.tot, Zb.tot, Zab.tot, Zi.tot, Do.tot, Zaq.tot, Option.bind_some])
 repeat' (first | exact ⟨_, rfl⟩ | exact Zg.j3.isS .. | exact Zg.j2.isS .. | (exfalso; omega) | split)
theorem Zg.j0.isS (x32 : Bool) (c7 : List Int) (a2 a3 a4 a1 a5 a9 c0 a6 a7 : Int) (a8 : Bool) (c8 c9 d0 d1 : Int) : ∃ r, Zg.j0 x32 c7 a2 a3 a4 a1 a5 a9 c0 a6 a7 a8 c8 c9 d0 d1 = some r := by
 unfold Zg.j0
 (try simp only [impl_within.tot, Zb.tot, Zab.tot, Zi.tot, Do.tot, Zaq.tot, Option.bind_some])
 repeat' (first | exact ⟨_, rfl⟩ | exact Zg.j3.isS .. | exact Zg.j2.isS .. | exact Zg.j1.isS .. | (exfalso; omega) | split)
theorem Zg.f.isS (a0 : Int) (l1_0 : List Int) (b0 b1 b2 b3 b4 b5 b6 b7 b8 : Int) (b9 : Bool) : ∃ r, Zg.f a0 l1_0 b0 b1 b2 b3 b4 b5 b6 b7 b8 b9 = some r := by
 unfold Zg.f
 (try simp only [impl_within.tot, Zb.tot, Zab.tot, Zi.tot, Do.tot, Zaq.tot, Option.bind_some])
 repeat' (first | exact ⟨_, rfl⟩ | exact Zg.j3.isS .. | exact Zg.j2.isS .. | exact Zg.j1.isS .. | exact Zg.j0.isS .. | (exfalso; omega) | split)
theorem Zg.tot (a0 : Int) (l1_0 : List Int) (b0 b1 b2 b3 b4 b5 b6 b7 b8 : Int) (b9 : Bool) : Zg.f a0 l1_0 b0 b1 b2 b3 b4 b5 b6 b7 b8 b9 = some (Zg.F a0 l1_0 b0 b1 b2 b3 b4 b5 b6 b7 b8 b9) := by
 obtain ⟨r, h⟩ := Zg.f.isS a0 l1_0 b0 b1 b2 b3 b4 b5 b6 b7 b8 b9
 unfold Zg.F
 rw [h]
 rfl
theorem Zg.walk (A1_0 : Option Addr) (c1_0 : Nat) (a0 : Int) (l1_0 : List Int) (b0 b1 b2 b3 b4 b5 b6 b7 b8 : Int) (b9 : Bool) : Zb1 84 [(82, impl_within.g), (110, Zab.g), (107, Zi.g), (109, Zaq.g)] [(53, Zb.g)] [(108, Do.g Do.F 0 l1_0)] [rowI A1_0 c1_0 l1_0] 7 1500 [.int a0, .agg [.sl 0], .agg [.int b0, .int b1, .int b2, .int b3, .int b4, .int b5, .int b6, .int b7, .int b8, .bool b9]] ((Zg.F a0 l1_0 b0 b1 b2 b3 b4 b5 b6 b7 b8 b9).1) (fun v0_ => .tuple #[.agg #[v0_], .agg #[.int .i64 (Zg.F a0 l1_0 b0 b1 b2 b3 b4 b5 b6 b7 b8 b9).2.1, .int .i64 (Zg.F a0 l1_0 b0 b1 b2 b3 b4 b5 b6 b7 b8 b9).2.2.1, .int .i64 (Zg.F a0 l1_0 b0 b1 b2 b3 b4 b5 b6 b7 b8 b9).2.2.2.1, .int .i64 (Zg.F a0 l1_0 b0 b1 b2 b3 b4 b5 b6 b7 b8 b9).2.2.2.2.1, .int .i64 (Zg.F a0 l1_0 b0 b1 b2 b3 b4 b5 b6 b7 b8 b9).2.2.2.2.2.1, .int .i64 (Zg.F a0 l1_0 b0 b1 b2 b3 b4 b5 b6 b7 b8 b9).2.2.2.2.2.2.1, .int .i64 (Zg.F a0 l1_0 b0 b1 b2 b3 b4 b5 b6 b7 b8 b9).2.2.2.2.2.2.2.1, .int .i64 (Zg.F a0 l1_0 b0 b1 b2 b3 b4 b5 b6 b7 b8 b9).2.2.2.2.2.2.2.2.1, .int .i64 (Zg.F a0 l1_0 b0 b1 b2 b3 b4 b5 b6 b7 b8 b9).2.2.2.2.2.2.2.2.2.1, .bool (Zg.F a0 l1_0 b0 b1 b2 b3 b4 b5 b6 b7 b8 b9).2.2.2.2.2.2.2.2.2.2.1], .bool (Zg.F a0 l1_0 b0 b1 b2 b3 b4 b5 b6 b7 b8 b9).2.2.2.2.2.2.2.2.2.2.2]) := by
 refine w2 fun m' E' O a k c' hm' hE hO => ⟨_, _, Tryz.func84, rfl, by kernel_rfl, Nat.le_of_ble_eq_true rfl, ?_⟩
 unfold rowI
 generalize hn : l1_0.length = n0
 generalize hrd : (fun i => [AV.int (rd l1_0 i)]) = rd0
 unfold impl_within.g
 generalize hf0 : impl_within.F = f0
 unfold Zb.g
 generalize hf1 : Zb.F = f1
 unfold Zab.g
 generalize hf2 : Zab.F = f2
 unfold Zi.g
 generalize hf3 : Zi.F = f3
 generalize hf4 : Do.F = f4
 unfold Zaq.g
 generalize hf5 : Zaq.F = f5
 (try cbv)
 repeat' (apply And.intro <;> (try intro h) <;> (try cbv))
 all_goals (subst hm' hE hn hrd hO; subst hf0; subst hf1; subst hf2; subst hf3; subst hf4; subst hf5; (try dsimp only [std] at *); (try simp only [nt_, Int.ofNat_eq_natCast] at *); (try subst_vars)) <;> first | exact Or.inl ⟨rfl, rfl⟩ | exact Or.inr ⟨rfl, rfl⟩ | (simp only [Zg.F, Zg.f, AV.v, AV.vs, ZZ, rowI, ZaA, impl_within.tot, Zb.tot, Zab.tot, Zi.tot, Do.tot, Zaq.tot, Zg.j3, Zg.j2, Zg.j1, Zg.j0, nv_, reduceIte, bne_iff_ne, bne_self_eq_false, not_false_eq_true, not_true_eq_false, ne_eq, *] <;> first | exact Or.inl ⟨rfl, rfl⟩ | exact Or.inr ⟨rfl, rfl⟩ | exact Or.inr ⟨trivial, trivial⟩ | exact Or.inl ⟨trivial, trivial⟩ | exact Or.inl ⟨rfl, trivial⟩ | trivial) | (apply Or.inl; (simp_all (maxSteps := 1000000) [std, Zg.F, Zg.f, AV.v, AV.vs, ZZ, rowI, ZaA, impl_within.tot, Zb.tot, Zab.tot, Zi.tot, Do.tot, Zaq.tot, Zg.j3, Zg.j2, Zg.j1, Zg.j0] <;> (repeat' split) <;> first | rfl | exact ⟨rfl, rfl⟩ | (exfalso; omega) | omega | (simp_all; done) | (simp_all; omega))) | (apply Or.inr; (simp_all (maxSteps := 1000000) [std, Zg.F, Zg.f, AV.v, AV.vs, ZZ, rowI, ZaA, impl_within.tot, Zb.tot, Zab.tot, Zi.tot, Do.tot, Zaq.tot, Zg.j3, Zg.j2, Zg.j1, Zg.j0] <;> (repeat' split) <;> first | rfl | exact ⟨rfl, rfl⟩ | (exfalso; omega) | omega | (simp_all; done) | (simp_all; omega))) | (simp_all (maxSteps := 1000000) [std, Zg.F, Zg.f, AV.v, AV.vs, ZZ, rowI, ZaA, impl_within.tot, Zb.tot, Zab.tot, Zi.tot, Do.tot, Zaq.tot, Zg.j3, Zg.j2, Zg.j1, Zg.j0] <;> (repeat' split) <;> first | rfl | exact ⟨rfl, rfl⟩ | (exfalso; omega) | omega | (simp_all; done) | (simp_all; omega))
end Go.Proofs.YtgghglocfdcegaaGreat.Xec
