/- Part T3 of the proof of FnExactCrewStep and FnExactCrewRun (wip/xec, pack.py). No condition. -/
import Derived.Test.YtgghglocfdcegaaGreatKG
import Derived.Test.YtgghglocfdcegaaGreatKF
import Derived.Test.YtgghglocfdcegaaGreatKS1
namespace Go.Proofs.YtgghglocfdcegaaGreat.Xec
open Go Go.RowKit Go.Proofs.YtgghglocfdcegaaGreat.PFnExactCrewRun Go.Proofs.YtgghglocfdcegaaGreatW.PrintWords
set_option linter.unusedVariables false
set_option linter.unusedSimpArgs false
set_option maxRecDepth 100000
set_option maxHeartbeats 16000000
def Ze.j3 (a2 a3 a4 a1 c0 a5 a6 a7 c1 : Int) (a8 : Bool) (a9 : List Int) : Option (TL) := some (a9, a2, a3, a4, a1, c0, a5, a6, a7, c1, a8, true)
def Ze.j2 (x12 x14 : Int) (x69 : Bool) (a2 a3 a4 a1 c0 a5 a6 a7 c1 : Int) (a8 : Bool) (a9 : List Int) : Option (TL) := if x69 = true then (Ze.j3 a2 a3 a4 a1 c0 a5 a6 a7 x12 a8 a9) else (if x14 = 4 then ((Zm.f a2 a3 a4 a1 c0 a5 a6 a7 c1 a8 1).bind fun c2 => (Ze.j3 c2.1 c2.2.1 c2.2.2.1 c2.2.2.2.1 c2.2.2.2.2.1 c2.2.2.2.2.2.1 c2.2.2.2.2.2.2.1 c2.2.2.2.2.2.2.2.1 c2.2.2.2.2.2.2.2.2.1 c2.2.2.2.2.2.2.2.2.2 a9)) else (Ze.j3 a2 a3 a4 a1 c0 a5 a6 a7 c1 a8 a9))
def Ze.j1 (x12 x14 : Int) (x61 : Bool) (a2 a3 a4 a1 c0 a5 a6 a7 c1 : Int) (a8 : Bool) (a9 : List Int) : Option (TL) := if x61 = true then (Ze.j3 a2 a3 a4 0 c0 a5 a6 a7 c1 a8 a9) else (if x14 = 3 then (Ze.j2 x12 x14 (a2 == 2) a2 a3 a4 a1 c0 a5 a6 a7 c1 a8 a9) else (Ze.j2 x12 x14 false a2 a3 a4 a1 c0 a5 a6 a7 c1 a8 a9))
def Ze.j0 (x12 : Int) (x42 : Bool) (a2 a3 a4 a1 c0 a5 a6 a7 c1 : Int) (a8 : Bool) (a9 : List Int) : Option (TL) := if x42 = true then (some (([] : List Int), 0, 0, 0, 0, 0, 0, 0, 0, 0, false, false)) else (if a1 = 0 then (Ze.j3 a2 a3 a4 (wrap64 (a1 + 1)) x12 a5 a6 a7 c1 a8 a9) else (if a1 = 1 then ((Zj.f a2 a3 a4 (wrap64 (a1 + 1)) c0 a5 a6 a7 c1 a8 x12).bind fun c3 => (Ze.j3 c3.1 c3.2.1 c3.2.2.1 c3.2.2.2.1 c3.2.2.2.2.1 c3.2.2.2.2.2.1 c3.2.2.2.2.2.2.1 c3.2.2.2.2.2.2.2.1 c3.2.2.2.2.2.2.2.2.1 c3.2.2.2.2.2.2.2.2.2 a9)) else (if a1 = 2 then (Ze.j1 x12 a1 (x12 == 0) a2 a3 a4 (wrap64 (a1 + 1)) c0 a5 a6 a7 c1 a8 a9) else (Ze.j1 x12 a1 false a2 a3 a4 (wrap64 (a1 + 1)) c0 a5 a6 a7 c1 a8 a9))))
def Ze.f (a0 : Int) (l1_0 : List Int) (b0 b1 b2 b3 b4 b5 b6 b7 b8 : Int) (b9 : Bool) : Option (TL) := (Zt.f a0 b0 b1 b2 b3 b4 b5 b6 b7 b8 b9).bind fun c5 => ((Do.f l1_0 c5.1 c5.2.1 c5.2.2.1 c5.2.2.2.1).bind fun c4 => (if c5.2.2.2.2 = true then (if c4.2.2 = true then (Ze.j0 c4.2.1 ((l1_0.length : Int) != (wrap64 (2 + (wrap64 (2 * a0))))) b0 b1 b2 b3 b4 b5 b6 b7 b8 b9 c4.1) else (Ze.j0 c4.2.1 true b0 b1 b2 b3 b4 b5 b6 b7 b8 b9 c4.1)) else (Ze.j0 c4.2.1 true b0 b1 b2 b3 b4 b5 b6 b7 b8 b9 c4.1)))
def Ze.F (a0 : Int) (l1_0 : List Int) (b0 b1 b2 b3 b4 b5 b6 b7 b8 : Int) (b9 : Bool) : TL := (Ze.f a0 l1_0 b0 b1 b2 b3 b4 b5 b6 b7 b8 b9).getD ([], 0, 0, 0, 0, 0, 0, 0, 0, 0, false, false)
theorem Ze.j3.isS (a2 a3 a4 a1 c0 a5 a6 a7 c1 : Int) (a8 : Bool) (a9 : List Int) : ∃ r, Ze.j3 a2 a3 a4 a1 c0 a5 a6 a7 c1 a8 a9 = some r := by
 unfold Ze.j3
 (try simp only [Zm.tot, Do.tot, Zt.tot, Zj.tot, Option.bind_some])
 repeat' (first | exact ⟨_, rfl⟩ | (exfalso; omega) | split)
theorem Ze.j2.isS (x12 x14 : Int) (x69 : Bool) (a2 a3 a4 a1 c0 a5 a6 a7 c1 : Int) (a8 : Bool) (a9 : List Int) : ∃ r, Ze.j2 x12 x14 x69 a2 a3 a4 a1 c0 a5 a6 a7 c1 a8 a9 = some r := by
 unfold Ze.j2
 (try simp only [Zm.tot, Do.tot, Zt.tot, Zj.tot, Option.bind_some])
 repeat' (first | exact ⟨_, rfl⟩ | exact Ze.j3.isS .. | (exfalso; omega) | split)
theorem Ze.j1.isS (x12 x14 : Int) (x61 : Bool) (a2 a3 a4 a1 c0 a5 a6 a7 c1 : Int) (a8 : Bool) (a9 : List Int) : ∃ r, Ze.j1 x12 x14 x61 a2 a3 a4 a1 c0 a5 a6 a7 c1 a8 a9 = some r := by
 unfold Ze.j1
 (try simp only [Zm.tot, Do.tot, Zt.tot, Zj.tot, Option.bind_some])
 repeat' (first | exact ⟨_, rfl⟩ | exact Ze.j3.isS .. | exact Ze.j2.isS .. | (exfalso; omega) | split)
theorem Ze.j0.isS (x12 : Int) (x42 : Bool) (a2 a3 a4 a1 c0 a5 a6 a7 c1 : Int) (a8 : Bool) (a9 : List Int) : ∃ r, Ze.j0 x12 x42 a2 a3 a4 a1 c0 a5 a6 a7 c1 a8 a9 = some r := by
 unfold Ze.j0
 (try simp only [Zm.tot, Do.tot, Zt.tot, Zj.tot, Option.bind_some])
 repeat' (first | exact ⟨_, rfl⟩ | exact Ze.j3.isS .. | exact Ze.j2.isS .. | exact Ze.j1.isS .. | (exfalso; omega) | split)
theorem Ze.f.isS (a0 : Int) (l1_0 : List Int) (b0 b1 b2 b3 b4 b5 b6 b7 b8 : Int) (b9 : Bool) : ∃ r, Ze.f a0 l1_0 b0 b1 b2 b3 b4 b5 b6 b7 b8 b9 = some r := by
 unfold Ze.f
 (try simp only [Zm.tot, Do.tot, Zt.tot, Zj.tot, Option.bind_some])
 repeat' (first | exact ⟨_, rfl⟩ | exact Ze.j3.isS .. | exact Ze.j2.isS .. | exact Ze.j1.isS .. | exact Ze.j0.isS .. | (exfalso; omega) | split)
theorem Ze.tot (a0 : Int) (l1_0 : List Int) (b0 b1 b2 b3 b4 b5 b6 b7 b8 : Int) (b9 : Bool) : Ze.f a0 l1_0 b0 b1 b2 b3 b4 b5 b6 b7 b8 b9 = some (Ze.F a0 l1_0 b0 b1 b2 b3 b4 b5 b6 b7 b8 b9) := by
 obtain ⟨r, h⟩ := Ze.f.isS a0 l1_0 b0 b1 b2 b3 b4 b5 b6 b7 b8 b9
 unfold Ze.F
 rw [h]
 rfl
theorem Ze.walk (A1_0 : Option Addr) (c1_0 : Nat) (a0 : Int) (l1_0 : List Int) (b0 b1 b2 b3 b4 b5 b6 b7 b8 : Int) (b9 : Bool) : Zb1 45 [(43, Zm.g), (70, Zt.g), (71, Zj.g)] [] [(65, Do.g Do.F 0 l1_0)] [rowI A1_0 c1_0 l1_0] 7 1500 [.int a0, .agg [.sl 0], .agg [.int b0, .int b1, .int b2, .int b3, .int b4, .int b5, .int b6, .int b7, .int b8, .bool b9]] ((Ze.F a0 l1_0 b0 b1 b2 b3 b4 b5 b6 b7 b8 b9).1) (fun v0_ => .tuple #[.agg #[v0_], .agg #[.int .i64 (Ze.F a0 l1_0 b0 b1 b2 b3 b4 b5 b6 b7 b8 b9).2.1, .int .i64 (Ze.F a0 l1_0 b0 b1 b2 b3 b4 b5 b6 b7 b8 b9).2.2.1, .int .i64 (Ze.F a0 l1_0 b0 b1 b2 b3 b4 b5 b6 b7 b8 b9).2.2.2.1, .int .i64 (Ze.F a0 l1_0 b0 b1 b2 b3 b4 b5 b6 b7 b8 b9).2.2.2.2.1, .int .i64 (Ze.F a0 l1_0 b0 b1 b2 b3 b4 b5 b6 b7 b8 b9).2.2.2.2.2.1, .int .i64 (Ze.F a0 l1_0 b0 b1 b2 b3 b4 b5 b6 b7 b8 b9).2.2.2.2.2.2.1, .int .i64 (Ze.F a0 l1_0 b0 b1 b2 b3 b4 b5 b6 b7 b8 b9).2.2.2.2.2.2.2.1, .int .i64 (Ze.F a0 l1_0 b0 b1 b2 b3 b4 b5 b6 b7 b8 b9).2.2.2.2.2.2.2.2.1, .int .i64 (Ze.F a0 l1_0 b0 b1 b2 b3 b4 b5 b6 b7 b8 b9).2.2.2.2.2.2.2.2.2.1, .bool (Ze.F a0 l1_0 b0 b1 b2 b3 b4 b5 b6 b7 b8 b9).2.2.2.2.2.2.2.2.2.2.1], .bool (Ze.F a0 l1_0 b0 b1 b2 b3 b4 b5 b6 b7 b8 b9).2.2.2.2.2.2.2.2.2.2.2]) := by
 refine w2 fun m' E' O a k c' hm' hE hO => ⟨_, _, Tryz.func45, rfl, by kernel_rfl, Nat.le_of_ble_eq_true rfl, ?_⟩
 unfold rowI
 generalize hn : l1_0.length = n0
 generalize hrd : (fun i => [AV.int (rd l1_0 i)]) = rd0
 unfold Zm.g
 generalize hf0 : Zm.F = f0
 generalize hf1 : Do.F = f1
 unfold Zt.g
 generalize hf2 : Zt.F = f2
 unfold Zj.g
 generalize hf3 : Zj.F = f3
 (try cbv)
 repeat' (apply And.intro <;> (try intro h) <;> (try cbv))
 all_goals (subst hm' hE hn hrd hO; subst hf0; subst hf1; subst hf2; subst hf3; (try dsimp only [std] at *); (try simp only [nt_, Int.ofNat_eq_natCast] at *); (try subst_vars)) <;> first | exact Or.inl ⟨rfl, rfl⟩ | exact Or.inr ⟨rfl, rfl⟩ | (simp only [Ze.F, Ze.f, AV.v, AV.vs, ZZ, rowI, ZaA, Zm.tot, Do.tot, Zt.tot, Zj.tot, Ze.j3, Ze.j2, Ze.j1, Ze.j0, nv_, reduceIte, bne_iff_ne, bne_self_eq_false, not_false_eq_true, not_true_eq_false, ne_eq, *] <;> first | exact Or.inl ⟨rfl, rfl⟩ | exact Or.inr ⟨rfl, rfl⟩ | exact Or.inr ⟨trivial, trivial⟩ | exact Or.inl ⟨trivial, trivial⟩ | exact Or.inl ⟨rfl, trivial⟩ | trivial) | (apply Or.inl; (simp_all (maxSteps := 1000000) [std, Ze.F, Ze.f, AV.v, AV.vs, ZZ, rowI, ZaA, Zm.tot, Do.tot, Zt.tot, Zj.tot, Ze.j3, Ze.j2, Ze.j1, Ze.j0] <;> (repeat' split) <;> first | rfl | exact ⟨rfl, rfl⟩ | (exfalso; omega) | omega | (simp_all; done) | (simp_all; omega))) | (apply Or.inr; (simp_all (maxSteps := 1000000) [std, Ze.F, Ze.f, AV.v, AV.vs, ZZ, rowI, ZaA, Zm.tot, Do.tot, Zt.tot, Zj.tot, Ze.j3, Ze.j2, Ze.j1, Ze.j0] <;> (repeat' split) <;> first | rfl | exact ⟨rfl, rfl⟩ | (exfalso; omega) | omega | (simp_all; done) | (simp_all; omega))) | (simp_all (maxSteps := 1000000) [std, Ze.F, Ze.f, AV.v, AV.vs, ZZ, rowI, ZaA, Zm.tot, Do.tot, Zt.tot, Zj.tot, Ze.j3, Ze.j2, Ze.j1, Ze.j0] <;> (repeat' split) <;> first | rfl | exact ⟨rfl, rfl⟩ | (exfalso; omega) | omega | (simp_all; done) | (simp_all; omega))
end Go.Proofs.YtgghglocfdcegaaGreat.Xec
