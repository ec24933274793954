/- Part T6 of the proof of FnExactCrewStep and FnExactCrewRun (wip/xec, pack.py). No condition. -/
import Derived.Test.YtgghglocfdcegaaGreatKG
import Derived.Test.YtgghglocfdcegaaGreatKF
import Derived.Test.YtgghglocfdcegaaGreatKS4
import Derived.Test.YtgghglocfdcegaaGreatKS5
namespace Go.Proofs.YtgghglocfdcegaaGreat.Xec
open Go Go.RowKit Go.Proofs.YtgghglocfdcegaaGreat.PFnExactCrewRun Go.Proofs.YtgghglocfdcegaaGreatW.PrintWords
set_option linter.unusedVariables false
set_option linter.unusedSimpArgs false
set_option maxRecDepth 100000
set_option maxHeartbeats 16000000
def Zh.j4 (a2 a3 a4 a1 a5 a6 a7 a8 a9 : Int) (c0 : Bool) (c1 : List Int) : Option (TL) := some (c1, a2, a3, a4, a1, a5, a6, a7, a8, a9, c0, true)
def Zh.j3 (x14 : Int) (x80 : Bool) (a2 a3 a4 a1 a5 a6 a7 a8 a9 : Int) (c0 : Bool) (c1 : List Int) : Option (TL) := if x80 = true then ((Zb.f a2 a3 a4 a1 a5 a6 a7 a8 a9 c0 1).bind fun c2 => (Zh.j4 c2.1 c2.2.1 c2.2.2.1 c2.2.2.2.1 c2.2.2.2.2.1 c2.2.2.2.2.2.1 c2.2.2.2.2.2.2.1 c2.2.2.2.2.2.2.2.1 c2.2.2.2.2.2.2.2.2.1 c2.2.2.2.2.2.2.2.2.2 c1)) else (if x14 ≥ 6 then ((Zk.f a2 a3 a4 a1 a5 a6 a7 a8 a9 c0).bind fun c3 => (Zh.j4 c3.1 c3.2.1 c3.2.2.1 c3.2.2.2.1 c3.2.2.2.2.1 c3.2.2.2.2.2.1 c3.2.2.2.2.2.2.1 c3.2.2.2.2.2.2.2.1 c3.2.2.2.2.2.2.2.2.1 c3.2.2.2.2.2.2.2.2.2 c1)) else (Zh.j4 a2 a3 a4 a1 a5 a6 a7 a8 a9 c0 c1))
def Zh.j2 (x12 x14 : Int) (x68 : Bool) (a2 a3 a4 a1 a5 a6 a7 a8 a9 : Int) (c0 : Bool) (c1 : List Int) : Option (TL) := if x68 = true then ((Zk.f a2 a3 a4 a1 a5 a6 a7 a8 a9 c0).bind fun c4 => (Zh.j4 c4.1 c4.2.1 c4.2.2.1 c4.2.2.2.1 c4.2.2.2.2.1 c4.2.2.2.2.2.1 c4.2.2.2.2.2.2.1 c4.2.2.2.2.2.2.2.1 c4.2.2.2.2.2.2.2.2.1 c4.2.2.2.2.2.2.2.2.2 c1)) else (if x14 = 3 then (Zh.j4 a2 a3 a4 0 a5 a6 a7 a8 a9 c0 c1) else (if x14 ≥ 6 then (Zh.j3 x14 (x12 == 1) a2 a3 a4 a1 a5 a6 a7 a8 a9 c0 c1) else (Zh.j3 x14 false a2 a3 a4 a1 a5 a6 a7 a8 a9 c0 c1)))
def Zh.j1 (x12 : Int) (x53 : Bool) (a2 a3 a4 a1 a5 a6 a7 a8 a9 : Int) (c0 : Bool) (c1 : List Int) : Option (TL) := if x53 = true then (some (([] : List Int), 0, 0, 0, 0, 0, 0, 0, 0, 0, false, false)) else (if a1 ≤ 2 then ((Zf.f a2 a3 a4 (wrap64 (a1 + 1)) a5 a6 a7 a8 a9 c0 a1 x12).bind fun c5 => (Zh.j4 c5.1 c5.2.1 c5.2.2.1 c5.2.2.2.1 c5.2.2.2.2.1 c5.2.2.2.2.2.1 c5.2.2.2.2.2.2.1 c5.2.2.2.2.2.2.2.1 c5.2.2.2.2.2.2.2.2.1 c5.2.2.2.2.2.2.2.2.2 c1)) else (if a1 = 3 then (Zh.j2 x12 a1 (x12 == 0) a2 a3 a4 (wrap64 (a1 + 1)) a5 a6 a7 a8 a9 c0 c1) else (Zh.j2 x12 a1 false a2 a3 a4 (wrap64 (a1 + 1)) a5 a6 a7 a8 a9 c0 c1)))
def Zh.j0 (x0 : Int) (x31 : Bool) (c8 : List Int) (a2 a3 a4 a1 a5 a6 a7 a8 a9 : Int) (c0 : Bool) (c9 d0 d1 d2 : Int) : Option (TL) := if x31 = true then (some (([] : List Int), 0, 0, 0, 0, 0, 0, 0, 0, 0, false, false)) else ((Do.f c8 c9 d0 d1 d2).bind fun c7 => (if c7.2.2 = true then (if a1 < 2 then ((Zr.f c7.2.1 x0).bind fun d3 => (Zh.j1 c7.2.1 (!d3) a2 a3 a4 a1 a5 a6 a7 a8 a9 c0 c7.1)) else (Zh.j1 c7.2.1 false a2 a3 a4 a1 a5 a6 a7 a8 a9 c0 c7.1)) else (Zh.j1 c7.2.1 true a2 a3 a4 a1 a5 a6 a7 a8 a9 c0 c7.1)))
def Zh.f (a0 : Int) (l1_0 : List Int) (b0 b1 b2 b3 b4 b5 b6 b7 b8 : Int) (b9 : Bool) : Option (TL) := (Za.f a0 b0 b1 b2 b3 b4 b5 b6 b7 b8 b9).bind fun c6 => (if c6.2.2.2.2 = true then (Zh.j0 a0 ((l1_0.length : Int) != (wrap64 (1 + (wrap64 (2 * a0))))) l1_0 b0 b1 b2 b3 b4 b5 b6 b7 b8 b9 c6.1 c6.2.1 c6.2.2.1 c6.2.2.2.1) else (Zh.j0 a0 true l1_0 b0 b1 b2 b3 b4 b5 b6 b7 b8 b9 c6.1 c6.2.1 c6.2.2.1 c6.2.2.2.1))
def Zh.F (a0 : Int) (l1_0 : List Int) (b0 b1 b2 b3 b4 b5 b6 b7 b8 : Int) (b9 : Bool) : TL := (Zh.f a0 l1_0 b0 b1 b2 b3 b4 b5 b6 b7 b8 b9).getD ([], 0, 0, 0, 0, 0, 0, 0, 0, 0, false, false)
theorem Zh.j4.isS (a2 a3 a4 a1 a5 a6 a7 a8 a9 : Int) (c0 : Bool) (c1 : List Int) : ∃ r, Zh.j4 a2 a3 a4 a1 a5 a6 a7 a8 a9 c0 c1 = some r := by
 unfold Zh.j4
 (try simp only [Zb.tot, Do.tot, Zr.tot, Za.tot, Zk.tot, Zf.tot, Option.bind_some])
 repeat' (first | exact ⟨_, rfl⟩ | (exfalso; omega) | split)
theorem Zh.j3.isS (x14 : Int) (x80 : Bool) (a2 a3 a4 a1 a5 a6 a7 a8 a9 : Int) (c0 : Bool) (c1 : List Int) : ∃ r, Zh.j3 x14 x80 a2 a3 a4 a1 a5 a6 a7 a8 a9 c0 c1 = some r := by
 unfold Zh.j3
 (try simp only [Zb.tot, Do.tot, Zr.tot, Za.tot, Zk.tot, Zf.tot, Option.bind_some])
 repeat' (first | exact ⟨_, rfl⟩ | exact Zh.j4.isS .. | (exfalso; omega) | split)
theorem Zh.j2.isS (x12 x14 : Int) (x68 : Bool) (a2 a3 a4 a1 a5 a6 a7 a8 a9 : Int) (c0 : Bool) (c1 : List Int) : ∃ r, Zh.j2 x12 x14 x68 a2 a3 a4 a1 a5 a6 a7 a8 a9 c0 c1 = some r := by
 unfold Zh.j2
 (try simp only [Zb.tot, Do.tot, Zr.tot, Za.tot, Zk.tot, Zf.tot, Option.bind_some])
 repeat' (first | exact ⟨_, rfl⟩ | exact Zh.j4.isS .. | exact Zh.j3.isS .. | (exfalso; omega) | split)
theorem Zh.j1.isS (x12 : Int) (x53 : Bool) (a2 a3 a4 a1 a5 a6 a7 a8 a9 : Int) (c0 : Bool) (c1 : List Int) : ∃ r, Zh.j1 x12 x53 a2 a3 a4 a1 a5 a6 a7 a8 a9 c0 c1 = some r := by
 unfold Zh.j1
 (try simp only [Zb.tot, Do.tot, Zr.tot, Za.tot, Zk.tot, Zf.tot, Option.bind_some])
 repeat' (first | exact ⟨_, rfl⟩ | exact Zh.j4.isS .. | exact Zh.j3.isS .. | exact Zh.j2.isS .. | (exfalso; omega) | split)
theorem Zh.j0.isS (x0 : Int) (x31 : Bool) (c8 : List Int) (a2 a3 a4 a1 a5 a6 a7 a8 a9 : Int) (c0 : Bool) (c9 d0 d1 d2 : Int) : ∃ r, Zh.j0 x0 x31 c8 a2 a3 a4 a1 a5 a6 a7 a8 a9 c0 c9 d0 d1 d2 = some r := by
 unfold Zh.j0
 (try simp only [Zb.tot, Do.tot, Zr.tot, Za.tot, Zk.tot, Zf.tot, Option.bind_some])
 repeat' (first | exact ⟨_, rfl⟩ | exact Zh.j4.isS .. | exact Zh.j3.isS .. | exact Zh.j2.isS .. | exact Zh.j1.isS .. | (exfalso; omega) | split)
theorem Zh.f.isS (a0 : Int) (l1_0 : List Int) (b0 b1 b2 b3 b4 b5 b6 b7 b8 : Int) (b9 : Bool) : ∃ r, Zh.f a0 l1_0 b0 b1 b2 b3 b4 b5 b6 b7 b8 b9 = some r := by
 unfold Zh.f
 (try simp only [Zb.tot, Do.tot, Zr.tot, Za.tot, Zk.tot, Zf.tot, Option.bind_some])
 repeat' (first | exact ⟨_, rfl⟩ | exact Zh.j4.isS .. | exact Zh.j3.isS .. | exact Zh.j2.isS .. | exact Zh.j1.isS .. | exact Zh.j0.isS .. | (exfalso; omega) | split)
theorem Zh.tot (a0 : Int) (l1_0 : List Int) (b0 b1 b2 b3 b4 b5 b6 b7 b8 : Int) (b9 : Bool) : Zh.f a0 l1_0 b0 b1 b2 b3 b4 b5 b6 b7 b8 b9 = some (Zh.F a0 l1_0 b0 b1 b2 b3 b4 b5 b6 b7 b8 b9) := by
 obtain ⟨r, h⟩ := Zh.f.isS a0 l1_0 b0 b1 b2 b3 b4 b5 b6 b7 b8 b9
 unfold Zh.F
 rw [h]
 rfl
theorem Zh.walk (A1_0 : Option Addr) (c1_0 : Nat) (a0 : Int) (l1_0 : List Int) (b0 b1 b2 b3 b4 b5 b6 b7 b8 : Int) (b9 : Bool) : Zb1 86 [(113, Zr.g), (112, Za.g)] [(53, Zb.g), (115, Zk.g), (114, Zf.g)] [(108, Do.g Do.F 0 l1_0)] [rowI A1_0 c1_0 l1_0] 7 1500 [.int a0, .agg [.sl 0], .agg [.int b0, .int b1, .int b2, .int b3, .int b4, .int b5, .int b6, .int b7, .int b8, .bool b9]] ((Zh.F a0 l1_0 b0 b1 b2 b3 b4 b5 b6 b7 b8 b9).1) (fun v0_ => .tuple #[.agg #[v0_], .agg #[.int .i64 (Zh.F a0 l1_0 b0 b1 b2 b3 b4 b5 b6 b7 b8 b9).2.1, .int .i64 (Zh.F a0 l1_0 b0 b1 b2 b3 b4 b5 b6 b7 b8 b9).2.2.1, .int .i64 (Zh.F a0 l1_0 b0 b1 b2 b3 b4 b5 b6 b7 b8 b9).2.2.2.1, .int .i64 (Zh.F a0 l1_0 b0 b1 b2 b3 b4 b5 b6 b7 b8 b9).2.2.2.2.1, .int .i64 (Zh.F a0 l1_0 b0 b1 b2 b3 b4 b5 b6 b7 b8 b9).2.2.2.2.2.1, .int .i64 (Zh.F a0 l1_0 b0 b1 b2 b3 b4 b5 b6 b7 b8 b9).2.2.2.2.2.2.1, .int .i64 (Zh.F a0 l1_0 b0 b1 b2 b3 b4 b5 b6 b7 b8 b9).2.2.2.2.2.2.2.1, .int .i64 (Zh.F a0 l1_0 b0 b1 b2 b3 b4 b5 b6 b7 b8 b9).2.2.2.2.2.2.2.2.1, .int .i64 (Zh.F a0 l1_0 b0 b1 b2 b3 b4 b5 b6 b7 b8 b9).2.2.2.2.2.2.2.2.2.1, .bool (Zh.F a0 l1_0 b0 b1 b2 b3 b4 b5 b6 b7 b8 b9).2.2.2.2.2.2.2.2.2.2.1], .bool (Zh.F a0 l1_0 b0 b1 b2 b3 b4 b5 b6 b7 b8 b9).2.2.2.2.2.2.2.2.2.2.2]) := by
 refine w2 fun m' E' O a k c' hm' hE hO => ⟨_, _, Tryz.func86, rfl, by kernel_rfl, Nat.le_of_ble_eq_true rfl, ?_⟩
 unfold rowI
 generalize hn : l1_0.length = n0
 generalize hrd : (fun i => [AV.int (rd l1_0 i)]) = rd0
 unfold Zb.g
 generalize hf0 : Zb.F = f0
 generalize hf1 : Do.F = f1
 unfold Zr.g
 generalize hf2 : Zr.F = f2
 unfold Za.g
 generalize hf3 : Za.F = f3
 unfold Zk.g
 generalize hf4 : Zk.F = f4
 unfold Zf.g
 generalize hf5 : Zf.F = f5
 (try cbv)
 repeat' (apply And.intro <;> (try intro h) <;> (try cbv))
 all_goals (subst hm' hE hn hrd hO; subst hf0; subst hf1; subst hf2; subst hf3; subst hf4; subst hf5; (try simp only [Zb.F, Zb.f, Zk.F, Zk.f, Option.getD_some] at *); (try dsimp only [std] at *); (try simp only [nt_, Int.ofNat_eq_natCast] at *); (try subst_vars)) <;> first | exact Or.inl ⟨rfl, rfl⟩ | exact Or.inr ⟨rfl, rfl⟩ | (simp only [Zh.F, Zh.f, AV.v, AV.vs, ZZ, rowI, ZaA, Zb.F, Zb.f, Do.tot, Zr.tot, Za.tot, Zk.F, Zk.f, Zf.tot, Zh.j4, Zh.j3, Zh.j2, Zh.j1, Zh.j0, nv_, reduceIte, bne_iff_ne, bne_self_eq_false, not_false_eq_true, not_true_eq_false, ne_eq, *] <;> first | exact Or.inl ⟨rfl, rfl⟩ | exact Or.inr ⟨rfl, rfl⟩ | exact Or.inr ⟨trivial, trivial⟩ | exact Or.inl ⟨trivial, trivial⟩ | exact Or.inl ⟨rfl, trivial⟩ | trivial) | (apply Or.inl; (simp_all (maxSteps := 1000000) [std, Zh.F, Zh.f, AV.v, AV.vs, ZZ, rowI, ZaA, Zb.F, Zb.f, Do.tot, Zr.tot, Za.tot, Zk.F, Zk.f, Zf.tot, Zh.j4, Zh.j3, Zh.j2, Zh.j1, Zh.j0] <;> (repeat' split) <;> first | rfl | exact ⟨rfl, rfl⟩ | (exfalso; omega) | omega | (simp_all; done) | (simp_all; omega))) | (apply Or.inr; (simp_all (maxSteps := 1000000) [std, Zh.F, Zh.f, AV.v, AV.vs, ZZ, rowI, ZaA, Zb.F, Zb.f, Do.tot, Zr.tot, Za.tot, Zk.F, Zk.f, Zf.tot, Zh.j4, Zh.j3, Zh.j2, Zh.j1, Zh.j0] <;> (repeat' split) <;> first | rfl | exact ⟨rfl, rfl⟩ | (exfalso; omega) | omega | (simp_all; done) | (simp_all; omega))) | (simp_all (maxSteps := 1000000) [std, Zh.F, Zh.f, AV.v, AV.vs, ZZ, rowI, ZaA, Zb.F, Zb.f, Do.tot, Zr.tot, Za.tot, Zk.F, Zk.f, Zf.tot, Zh.j4, Zh.j3, Zh.j2, Zh.j1, Zh.j0] <;> (repeat' split) <;> first | rfl | exact ⟨rfl, rfl⟩ | (exfalso; omega) | omega | (simp_all; done) | (simp_all; omega))
end Go.Proofs.YtgghglocfdcegaaGreat.Xec
