/- Part T4 of the proof of FnExactCrewStep and FnExactCrewRun (wip/xec, pack.py). No condition. -/
import Derived.Test.YtgghglocfdcegaaGreatKG
import Derived.Test.YtgghglocfdcegaaGreatKF
import Derived.Test.YtgghglocfdcegaaGreatKS2
namespace Go.Proofs.YtgghglocfdcegaaGreat.Xec
open Go Go.RowKit Go.Proofs.YtgghglocfdcegaaGreat.PFnExactCrewRun Go.Proofs.YtgghglocfdcegaaGreatW.PrintWords
set_option linter.unusedVariables false
set_option linter.unusedSimpArgs false
set_option maxRecDepth 100000
set_option maxHeartbeats 16000000
def Zc.j3 (a1 a4 a5 a2 a3 c0 a6 a7 a9 : Int) (a8 : Bool) (c2 : List Int) : Option (TL) := some (c2, a1, a4, a5, a2, a3, c0, a6, a7, a9, a8, true)
def Zc.j2 (x15 : Int) (x75 : Bool) (a1 a4 a5 a2 a3 c0 a6 a7 a9 : Int) (a8 : Bool) (c2 : List Int) : Option (TL) := if x75 = true then ((Zb.f a1 a4 a5 a2 a3 c0 a6 a7 a9 a8 3).bind fun c3 => (Zc.j3 c3.1 c3.2.1 c3.2.2.1 c3.2.2.2.1 c3.2.2.2.2.1 c3.2.2.2.2.2.1 c3.2.2.2.2.2.2.1 c3.2.2.2.2.2.2.2.1 c3.2.2.2.2.2.2.2.2.1 c3.2.2.2.2.2.2.2.2.2 c2)) else (if x15 < 0 then ((Zb.f a1 a4 a5 a2 a3 c0 a6 a7 a9 a8 2).bind fun c4 => (Zc.j3 c4.1 c4.2.1 c4.2.2.1 c4.2.2.2.1 c4.2.2.2.2.1 c4.2.2.2.2.2.1 c4.2.2.2.2.2.2.1 c4.2.2.2.2.2.2.2.1 c4.2.2.2.2.2.2.2.2.1 c4.2.2.2.2.2.2.2.2.2 c2)) else (if x15 > 0 then (Zc.j3 a1 a4 a5 0 a3 c0 a6 a7 a9 a8 c2) else (Zc.j3 a1 a4 a5 a2 a3 c0 a6 a7 a9 a8 c2)))
def Zc.j1 (x15 a1 a4 a5 a2 a3 c0 a6 a7 a9 : Int) (a8 : Bool) (c2 : List Int) : Option (TL) := if x15 < 0 then (Zc.j2 x15 (a1 == 1) a1 a4 a5 a2 a3 c0 a6 a7 a9 a8 c2) else (Zc.j2 x15 false a1 a4 a5 a2 a3 c0 a6 a7 a9 a8 c2)
def Zc.j0 (x32 : Bool) (c7 : List Int) (a1 a4 a5 a2 a3 c0 a6 a7 a9 : Int) (a8 : Bool) (c8 c9 d0 d1 : Int) : Option (TL) := if x32 = true then (some (([] : List Int), 0, 0, 0, 0, 0, 0, 0, 0, 0, false, false)) else ((Do.f c7 c8 c9 d0 d1).bind fun c1 => (if c1.2.2 = true then (if a2 = 0 then (Zc.j3 a1 a4 a5 (wrap64 (a2 + 1)) c1.2.1 c0 a6 a7 a9 a8 c1.1) else (if a2 = 1 then (if a1 = 2 then (Zc.j1 (wrap64 (c1.2.1 - (wrap64 (a3 + 1)))) a1 a4 a5 (wrap64 (a2 + 1)) a3 c1.2.1 a6 a7 a9 a8 c1.1) else (Zc.j1 (wrap64 (c1.2.1 - a3)) a1 a4 a5 (wrap64 (a2 + 1)) a3 c1.2.1 a6 a7 a9 a8 c1.1)) else (if a2 = 2 then (if c1.2.1 = 0 then (Zc.j3 a1 a4 a5 0 a3 c0 a6 a7 a9 a8 c1.1) else (Zc.j3 a1 a4 a5 (wrap64 (a2 + 1)) a3 c0 a6 a7 a9 a8 c1.1)) else (if a2 = 3 then (if a1 = 2 then (Zc.j3 a1 a4 a5 (wrap64 (a2 + 1)) a3 c0 a6 a7 c1.2.1 a8 c1.1) else (Zc.j3 a1 a4 a5 (wrap64 (a2 + 1)) a3 c0 a6 a7 a9 a8 c1.1)) else (if a2 = 4 then ((Zb.f a1 a4 a5 (wrap64 (a2 + 1)) a3 c0 a6 a7 a9 a8 1).bind fun c5 => (Zc.j3 c5.1 c5.2.1 c5.2.2.1 c5.2.2.2.1 c5.2.2.2.2.1 c5.2.2.2.2.2.1 c5.2.2.2.2.2.2.1 c5.2.2.2.2.2.2.2.1 c5.2.2.2.2.2.2.2.2.1 c5.2.2.2.2.2.2.2.2.2 c1.1)) else (Zc.j3 a1 a4 a5 (wrap64 (a2 + 1)) a3 c0 a6 a7 a9 a8 c1.1)))))) else (some (([] : List Int), 0, 0, 0, 0, 0, 0, 0, 0, 0, false, false))))
def Zc.f (a0 : Int) (l1_0 : List Int) (b0 b1 b2 b3 b4 b5 b6 b7 b8 : Int) (b9 : Bool) : Option (TL) := (ZU.f a0 b0 b1 b2 b3 b4 b5 b6 b7 b8 b9).bind fun c6 => (if c6.2.2.2.2 = true then (Zc.j0 ((l1_0.length : Int) != (wrap64 (2 + (wrap64 (2 * a0))))) l1_0 b0 b1 b2 b3 b4 b5 b6 b7 b8 b9 c6.1 c6.2.1 c6.2.2.1 c6.2.2.2.1) else (Zc.j0 true l1_0 b0 b1 b2 b3 b4 b5 b6 b7 b8 b9 c6.1 c6.2.1 c6.2.2.1 c6.2.2.2.1))
def Zc.F (a0 : Int) (l1_0 : List Int) (b0 b1 b2 b3 b4 b5 b6 b7 b8 : Int) (b9 : Bool) : TL := (Zc.f a0 l1_0 b0 b1 b2 b3 b4 b5 b6 b7 b8 b9).getD ([], 0, 0, 0, 0, 0, 0, 0, 0, 0, false, false)
theorem Zc.j3.isS (a1 a4 a5 a2 a3 c0 a6 a7 a9 : Int) (a8 : Bool) (c2 : List Int) : ∃ r, Zc.j3 a1 a4 a5 a2 a3 c0 a6 a7 a9 a8 c2 = some r := by
 unfold Zc.j3
 (try simp only [Zb.tot, Do.tot, ZU.tot, Option.bind_some])
 repeat' (first | exact ⟨_, rfl⟩ | (exfalso; omega) | split)
theorem Zc.j2.isS (x15 : Int) (x75 : Bool) (a1 a4 a5 a2 a3 c0 a6 a7 a9 : Int) (a8 : Bool) (c2 : List Int) : ∃ r, Zc.j2 x15 x75 a1 a4 a5 a2 a3 c0 a6 a7 a9 a8 c2 = some r := by
 unfold Zc.j2
 (try simp only [Zb.tot, Do.tot, ZU.tot, Option.bind_some])
 repeat' (first | exact ⟨_, rfl⟩ | exact Zc.j3.isS .. | (exfalso; omega) | split)
theorem Zc.j1.isS (x15 a1 a4 a5 a2 a3 c0 a6 a7 a9 : Int) (a8 : Bool) (c2 : List Int) : ∃ r, Zc.j1 x15 a1 a4 a5 a2 a3 c0 a6 a7 a9 a8 c2 = some r := by
 unfold Zc.j1
 (try simp only [Zb.tot, Do.tot, ZU.tot, Option.bind_some])
 repeat' (first | exact ⟨_, rfl⟩ | exact Zc.j3.isS .. | exact Zc.j2.isS .. | (exfalso; omega) | split)
theorem Zc.j0.isS (x32 : Bool) (c7 : List Int) (a1 a4 a5 a2 a3 c0 a6 a7 a9 : Int) (a8 : Bool) (c8 c9 d0 d1 : Int) : ∃ r, Zc.j0 x32 c7 a1 a4 a5 a2 a3 c0 a6 a7 a9 a8 c8 c9 d0 d1 = some r := by
 unfold Zc.j0
 (try simp only [Zb.tot, Do.tot, ZU.tot, Option.bind_some])
 repeat' (first | exact ⟨_, rfl⟩ | exact Zc.j3.isS .. | exact Zc.j2.isS .. | exact Zc.j1.isS .. | (exfalso; omega) | split)
theorem Zc.f.isS (a0 : Int) (l1_0 : List Int) (b0 b1 b2 b3 b4 b5 b6 b7 b8 : Int) (b9 : Bool) : ∃ r, Zc.f a0 l1_0 b0 b1 b2 b3 b4 b5 b6 b7 b8 b9 = some r := by
 unfold Zc.f
 (try simp only [Zb.tot, Do.tot, ZU.tot, Option.bind_some])
 repeat' (first | exact ⟨_, rfl⟩ | exact Zc.j3.isS .. | exact Zc.j2.isS .. | exact Zc.j1.isS .. | exact Zc.j0.isS .. | (exfalso; omega) | split)
theorem Zc.tot (a0 : Int) (l1_0 : List Int) (b0 b1 b2 b3 b4 b5 b6 b7 b8 : Int) (b9 : Bool) : Zc.f a0 l1_0 b0 b1 b2 b3 b4 b5 b6 b7 b8 b9 = some (Zc.F a0 l1_0 b0 b1 b2 b3 b4 b5 b6 b7 b8 b9) := by
 obtain ⟨r, h⟩ := Zc.f.isS a0 l1_0 b0 b1 b2 b3 b4 b5 b6 b7 b8 b9
 unfold Zc.F
 rw [h]
 rfl
theorem Zc.walk (A1_0 : Option Addr) (c1_0 : Nat) (a0 : Int) (l1_0 : List Int) (b0 b1 b2 b3 b4 b5 b6 b7 b8 : Int) (b9 : Bool) : Zb1 85 [(111, ZU.g)] [(53, Zb.g)] [(108, Do.g Do.F 0 l1_0)] [rowI A1_0 c1_0 l1_0] 7 1500 [.int a0, .agg [.sl 0], .agg [.int b0, .int b1, .int b2, .int b3, .int b4, .int b5, .int b6, .int b7, .int b8, .bool b9]] ((Zc.F a0 l1_0 b0 b1 b2 b3 b4 b5 b6 b7 b8 b9).1) (fun v0_ => .tuple #[.agg #[v0_], .agg #[.int .i64 (Zc.F a0 l1_0 b0 b1 b2 b3 b4 b5 b6 b7 b8 b9).2.1, .int .i64 (Zc.F a0 l1_0 b0 b1 b2 b3 b4 b5 b6 b7 b8 b9).2.2.1, .int .i64 (Zc.F a0 l1_0 b0 b1 b2 b3 b4 b5 b6 b7 b8 b9).2.2.2.1, .int .i64 (Zc.F a0 l1_0 b0 b1 b2 b3 b4 b5 b6 b7 b8 b9).2.2.2.2.1, .int .i64 (Zc.F a0 l1_0 b0 b1 b2 b3 b4 b5 b6 b7 b8 b9).2.2.2.2.2.1, .int .i64 (Zc.F a0 l1_0 b0 b1 b2 b3 b4 b5 b6 b7 b8 b9).2.2.2.2.2.2.1, .int .i64 (Zc.F a0 l1_0 b0 b1 b2 b3 b4 b5 b6 b7 b8 b9).2.2.2.2.2.2.2.1, .int .i64 (Zc.F a0 l1_0 b0 b1 b2 b3 b4 b5 b6 b7 b8 b9).2.2.2.2.2.2.2.2.1, .int .i64 (Zc.F a0 l1_0 b0 b1 b2 b3 b4 b5 b6 b7 b8 b9).2.2.2.2.2.2.2.2.2.1, .bool (Zc.F a0 l1_0 b0 b1 b2 b3 b4 b5 b6 b7 b8 b9).2.2.2.2.2.2.2.2.2.2.1], .bool (Zc.F a0 l1_0 b0 b1 b2 b3 b4 b5 b6 b7 b8 b9).2.2.2.2.2.2.2.2.2.2.2]) := by
 refine w2 fun m' E' O a k c' hm' hE hO => ⟨_, _, Tryz.func85, rfl, by kernel_rfl, Nat.le_of_ble_eq_true rfl, ?_⟩
 unfold rowI
 generalize hn : l1_0.length = n0
 generalize hrd : (fun i => [AV.int (rd l1_0 i)]) = rd0
 unfold Zb.g
 generalize hf0 : Zb.F = f0
 generalize hf1 : Do.F = f1
 unfold ZU.g
 generalize hf2 : ZU.F = f2
 (try cbv)
 repeat' (apply And.intro <;> (try intro h) <;> (try cbv))
 all_goals (subst hm' hE hn hrd hO; subst hf0; subst hf1; subst hf2; (try dsimp only [std] at *); (try simp only [nt_, Int.ofNat_eq_natCast] at *); (try subst_vars)) <;> first | exact Or.inl ⟨rfl, rfl⟩ | exact Or.inr ⟨rfl, rfl⟩ | (simp only [Zc.F, Zc.f, AV.v, AV.vs, ZZ, rowI, ZaA, Zb.tot, Do.tot, ZU.tot, Zc.j3, Zc.j2, Zc.j1, Zc.j0, nv_, reduceIte, bne_iff_ne, bne_self_eq_false, not_false_eq_true, not_true_eq_false, ne_eq, *] <;> first | exact Or.inl ⟨rfl, rfl⟩ | exact Or.inr ⟨rfl, rfl⟩ | exact Or.inr ⟨trivial, trivial⟩ | exact Or.inl ⟨trivial, trivial⟩ | exact Or.inl ⟨rfl, trivial⟩ | trivial) | (apply Or.inl; (simp_all (maxSteps := 1000000) [std, Zc.F, Zc.f, AV.v, AV.vs, ZZ, rowI, ZaA, Zb.tot, Do.tot, ZU.tot, Zc.j3, Zc.j2, Zc.j1, Zc.j0] <;> (repeat' split) <;> first | rfl | exact ⟨rfl, rfl⟩ | (exfalso; omega) | omega | (simp_all; done) | (simp_all; omega))) | (apply Or.inr; (simp_all (maxSteps := 1000000) [std, Zc.F, Zc.f, AV.v, AV.vs, ZZ, rowI, ZaA, Zb.tot, Do.tot, ZU.tot, Zc.j3, Zc.j2, Zc.j1, Zc.j0] <;> (repeat' split) <;> first | rfl | exact ⟨rfl, rfl⟩ | (exfalso; omega) | omega | (simp_all; done) | (simp_all; omega))) | (simp_all (maxSteps := 1000000) [std, Zc.F, Zc.f, AV.v, AV.vs, ZZ, rowI, ZaA, Zb.tot, Do.tot, ZU.tot, Zc.j3, Zc.j2, Zc.j1, Zc.j0] <;> (repeat' split) <;> first | rfl | exact ⟨rfl, rfl⟩ | (exfalso; omega) | omega | (simp_all; done) | (simp_all; omega))
end Go.Proofs.YtgghglocfdcegaaGreat.Xec
