/- Part T1 of the proof of FnExactCrewStep and FnExactCrewRun (wip/xec, pack.py). No condition. -/
import Derived.Test.YtgghglocfdcegaaGreatKG
import Derived.Test.YtgghglocfdcegaaGreatKF
import Derived.Test.YtgghglocfdcegaaGreatKS1
namespace Go.Proofs.YtgghglocfdcegaaGreat.Xec
open Go Go.RowKit Go.Proofs.YtgghglocfdcegaaGreat.PFnExactCrewRun Go.Proofs.YtgghglocfdcegaaGreatW.PrintWords
set_option linter.unusedVariables false
set_option linter.unusedSimpArgs false
set_option maxRecDepth 100000
set_option maxHeartbeats 16000000
def Zd.j5 (a1 a3 a4 a2 a5 c0 c1 a6 a8 : Int) (a7 : Bool) (a9 : List Int) : Option (TL) := some (a9, a1, a3, a4, a2, a5, c0, c1, a6, a8, a7, true)
def Zd.j1 (x69 : Bool) (a1 a3 a4 a2 a5 c0 c1 a6 a8 : Int) (a7 : Bool) (a9 : List Int) : Option (TL) := if x69 = true then ((Zm.f a1 a3 a4 a2 a5 c0 c1 a6 a8 a7 2).bind fun c2 => (some (a9, c2.1, c2.2.1, c2.2.2.1, c2.2.2.2.1, c2.2.2.2.2.1, c2.2.2.2.2.2.1, c2.2.2.2.2.2.2.1, c2.2.2.2.2.2.2.2.1, c2.2.2.2.2.2.2.2.2.1, c2.2.2.2.2.2.2.2.2.2, true))) else (Zd.j5 a1 a3 a4 a2 a5 c0 c1 a6 a8 a7 a9)
def Zd.j4 (a1 a3 a4 a2 a5 c0 c1 a6 a8 : Int) (a7 : Bool) (a9 : List Int) : Option (TL) := (Zm.f a1 a3 a4 a2 a5 c0 c1 a6 a8 a7 1).bind fun c3 => (some (a9, c3.1, c3.2.1, c3.2.2.1, c3.2.2.2.1, c3.2.2.2.2.1, c3.2.2.2.2.2.1, c3.2.2.2.2.2.2.1, c3.2.2.2.2.2.2.2.1, c3.2.2.2.2.2.2.2.2.1, c3.2.2.2.2.2.2.2.2.2, true))
def Zd.j3 (x14 : Int) (x87 : Bool) (a1 a3 a4 a2 a5 c0 c1 a6 a8 : Int) (a7 : Bool) (a9 : List Int) : Option (TL) := if x87 = true then (Zd.j5 a1 a3 a4 0 a5 c0 c1 a6 a8 a7 a9) else (if x14 = 2 then (if a1 = 2 then ((ZQ.f a1 a3 a4 a2 a5 c0 c1 a6 a8 a7).bind fun c7 => (Zd.j4 a1 a3 a4 a2 a5 c0 c1 a6 c7 a7 a9)) else (Zd.j4 a1 a3 a4 a2 a5 c0 c1 a6 a8 a7 a9)) else (Zd.j5 a1 a3 a4 a2 a5 c0 c1 a6 a8 a7 a9))
def Zd.j2 (x12 x14 : Int) (x73 : Bool) (a1 a3 a4 a2 a5 c0 c1 a6 a8 : Int) (a7 : Bool) (a9 : List Int) : Option (TL) := if x73 = true then ((ZP.f x12 0 1048575).bind fun c8 => (if c8 = true then (Zd.j5 a1 a3 a4 a2 a5 x12 c1 a6 a8 a7 a9) else (Zd.j5 a1 a3 a4 a2 a5 0 c1 a6 a8 a7 a9))) else (if x14 = 2 then (Zd.j3 x14 (x12 == 0) a1 a3 a4 a2 a5 c0 c1 a6 a8 a7 a9) else (Zd.j3 x14 false a1 a3 a4 a2 a5 c0 c1 a6 a8 a7 a9))
def Zd.j0 (x12 : Int) (x43 : Bool) (a1 a3 a4 a2 a5 c0 c1 a6 a8 : Int) (a7 : Bool) (a9 : List Int) : Option (TL) := if x43 = true then (some (([] : List Int), 0, 0, 0, 0, 0, 0, 0, 0, 0, false, false)) else (if a2 = 0 then ((Zac.f x12).bind fun c6 => ((Zv.f c6).bind fun c9 => (if a1 = 2 then (Zd.j1 (c9.2 == 0) a1 a3 a4 (wrap64 (a2 + 1)) a5 c0 c6 a6 a8 a7 a9) else (Zd.j1 false a1 a3 a4 (wrap64 (a2 + 1)) a5 c0 c6 a6 a8 a7 a9)))) else (if a2 = 1 then (Zd.j2 x12 a2 (a1 == 2) a1 a3 a4 (wrap64 (a2 + 1)) a5 c0 c1 a6 a8 a7 a9) else (Zd.j2 x12 a2 false a1 a3 a4 (wrap64 (a2 + 1)) a5 c0 c1 a6 a8 a7 a9)))
def Zd.f (a0 : Int) (l1_0 : List Int) (b0 b1 b2 b3 b4 b5 b6 b7 b8 : Int) (b9 : Bool) : Option (TL) := (Zn.f a0 b0 b1 b2 b3 b4 b5 b6 b7 b8 b9).bind fun c5 => ((Do.f l1_0 c5.1 c5.2.1 c5.2.2.1 c5.2.2.2.1).bind fun c4 => (if c5.2.2.2.2 = true then (if c4.2.2 = true then (Zd.j0 c4.2.1 ((l1_0.length : Int) != (wrap64 (1 + a0))) b0 b1 b2 b3 b4 b5 b6 b7 b8 b9 c4.1) else (Zd.j0 c4.2.1 true b0 b1 b2 b3 b4 b5 b6 b7 b8 b9 c4.1)) else (Zd.j0 c4.2.1 true b0 b1 b2 b3 b4 b5 b6 b7 b8 b9 c4.1)))
def Zd.F (a0 : Int) (l1_0 : List Int) (b0 b1 b2 b3 b4 b5 b6 b7 b8 : Int) (b9 : Bool) : TL := (Zd.f a0 l1_0 b0 b1 b2 b3 b4 b5 b6 b7 b8 b9).getD ([], 0, 0, 0, 0, 0, 0, 0, 0, 0, false, false)
theorem Zd.j5.isS (a1 a3 a4 a2 a5 c0 c1 a6 a8 : Int) (a7 : Bool) (a9 : List Int) : ∃ r, Zd.j5 a1 a3 a4 a2 a5 c0 c1 a6 a8 a7 a9 = some r := by
 unfold Zd.j5
 (try simp only [ZP.tot, Zm.tot, Zv.tot, ZQ.tot, Zn.tot, Do.tot, Zac.tot, Option.bind_some])
 repeat' (first | exact ⟨_, rfl⟩ | (exfalso; omega) | split)
theorem Zd.j1.isS (x69 : Bool) (a1 a3 a4 a2 a5 c0 c1 a6 a8 : Int) (a7 : Bool) (a9 : List Int) : ∃ r, Zd.j1 x69 a1 a3 a4 a2 a5 c0 c1 a6 a8 a7 a9 = some r := by
 unfold Zd.j1
 (try simp only [ZP.tot, Zm.tot, Zv.tot, ZQ.tot, Zn.tot, Do.tot, Zac.tot, Option.bind_some])
 repeat' (first | exact ⟨_, rfl⟩ | exact Zd.j5.isS .. | (exfalso; omega) | split)
theorem Zd.j4.isS (a1 a3 a4 a2 a5 c0 c1 a6 a8 : Int) (a7 : Bool) (a9 : List Int) : ∃ r, Zd.j4 a1 a3 a4 a2 a5 c0 c1 a6 a8 a7 a9 = some r := by
 unfold Zd.j4
 (try simp only [ZP.tot, Zm.tot, Zv.tot, ZQ.tot, Zn.tot, Do.tot, Zac.tot, Option.bind_some])
 repeat' (first | exact ⟨_, rfl⟩ | exact Zd.j5.isS .. | exact Zd.j1.isS .. | (exfalso; omega) | split)
theorem Zd.j3.isS (x14 : Int) (x87 : Bool) (a1 a3 a4 a2 a5 c0 c1 a6 a8 : Int) (a7 : Bool) (a9 : List Int) : ∃ r, Zd.j3 x14 x87 a1 a3 a4 a2 a5 c0 c1 a6 a8 a7 a9 = some r := by
 unfold Zd.j3
 (try simp only [ZP.tot, Zm.tot, Zv.tot, ZQ.tot, Zn.tot, Do.tot, Zac.tot, Option.bind_some])
 repeat' (first | exact ⟨_, rfl⟩ | exact Zd.j5.isS .. | exact Zd.j1.isS .. | exact Zd.j4.isS .. | (exfalso; omega) | split)
theorem Zd.j2.isS (x12 x14 : Int) (x73 : Bool) (a1 a3 a4 a2 a5 c0 c1 a6 a8 : Int) (a7 : Bool) (a9 : List Int) : ∃ r, Zd.j2 x12 x14 x73 a1 a3 a4 a2 a5 c0 c1 a6 a8 a7 a9 = some r := by
 unfold Zd.j2
 (try simp only [ZP.tot, Zm.tot, Zv.tot, ZQ.tot, Zn.tot, Do.tot, Zac.tot, Option.bind_some])
 repeat' (first | exact ⟨_, rfl⟩ | exact Zd.j5.isS .. | exact Zd.j1.isS .. | exact Zd.j4.isS .. | exact Zd.j3.isS .. | (exfalso; omega) | split)
theorem Zd.j0.isS (x12 : Int) (x43 : Bool) (a1 a3 a4 a2 a5 c0 c1 a6 a8 : Int) (a7 : Bool) (a9 : List Int) : ∃ r, Zd.j0 x12 x43 a1 a3 a4 a2 a5 c0 c1 a6 a8 a7 a9 = some r := by
 unfold Zd.j0
 (try simp only [ZP.tot, Zm.tot, Zv.tot, ZQ.tot, Zn.tot, Do.tot, Zac.tot, Option.bind_some])
 repeat' (first | exact ⟨_, rfl⟩ | exact Zd.j5.isS .. | exact Zd.j1.isS .. | exact Zd.j4.isS .. | exact Zd.j3.isS .. | exact Zd.j2.isS .. | (exfalso; omega) | split)
theorem Zd.f.isS (a0 : Int) (l1_0 : List Int) (b0 b1 b2 b3 b4 b5 b6 b7 b8 : Int) (b9 : Bool) : ∃ r, Zd.f a0 l1_0 b0 b1 b2 b3 b4 b5 b6 b7 b8 b9 = some r := by
 unfold Zd.f
 (try simp only [ZP.tot, Zm.tot, Zv.tot, ZQ.tot, Zn.tot, Do.tot, Zac.tot, Option.bind_some])
 repeat' (first | exact ⟨_, rfl⟩ | exact Zd.j5.isS .. | exact Zd.j1.isS .. | exact Zd.j4.isS .. | exact Zd.j3.isS .. | exact Zd.j2.isS .. | exact Zd.j0.isS .. | (exfalso; omega) | split)
theorem Zd.tot (a0 : Int) (l1_0 : List Int) (b0 b1 b2 b3 b4 b5 b6 b7 b8 : Int) (b9 : Bool) : Zd.f a0 l1_0 b0 b1 b2 b3 b4 b5 b6 b7 b8 b9 = some (Zd.F a0 l1_0 b0 b1 b2 b3 b4 b5 b6 b7 b8 b9) := by
 obtain ⟨r, h⟩ := Zd.f.isS a0 l1_0 b0 b1 b2 b3 b4 b5 b6 b7 b8 b9
 unfold Zd.F
 rw [h]
 rfl
theorem Zd.walk (A1_0 : Option Addr) (c1_0 : Nat) (a0 : Int) (l1_0 : List Int) (b0 b1 b2 b3 b4 b5 b6 b7 b8 : Int) (b9 : Bool) : Zb1 44 [(68, ZP.g), (43, Zm.g), (67, Zv.g), (69, ZQ.g), (64, Zn.g), (66, Zac.g)] [] [(65, Do.g Do.F 0 l1_0)] [rowI A1_0 c1_0 l1_0] 7 1500 [.int a0, .agg [.sl 0], .agg [.int b0, .int b1, .int b2, .int b3, .int b4, .int b5, .int b6, .int b7, .int b8, .bool b9]] ((Zd.F a0 l1_0 b0 b1 b2 b3 b4 b5 b6 b7 b8 b9).1) (fun v0_ => .tuple #[.agg #[v0_], .agg #[.int .i64 (Zd.F a0 l1_0 b0 b1 b2 b3 b4 b5 b6 b7 b8 b9).2.1, .int .i64 (Zd.F a0 l1_0 b0 b1 b2 b3 b4 b5 b6 b7 b8 b9).2.2.1, .int .i64 (Zd.F a0 l1_0 b0 b1 b2 b3 b4 b5 b6 b7 b8 b9).2.2.2.1, .int .i64 (Zd.F a0 l1_0 b0 b1 b2 b3 b4 b5 b6 b7 b8 b9).2.2.2.2.1, .int .i64 (Zd.F a0 l1_0 b0 b1 b2 b3 b4 b5 b6 b7 b8 b9).2.2.2.2.2.1, .int .i64 (Zd.F a0 l1_0 b0 b1 b2 b3 b4 b5 b6 b7 b8 b9).2.2.2.2.2.2.1, .int .i64 (Zd.F a0 l1_0 b0 b1 b2 b3 b4 b5 b6 b7 b8 b9).2.2.2.2.2.2.2.1, .int .i64 (Zd.F a0 l1_0 b0 b1 b2 b3 b4 b5 b6 b7 b8 b9).2.2.2.2.2.2.2.2.1, .int .i64 (Zd.F a0 l1_0 b0 b1 b2 b3 b4 b5 b6 b7 b8 b9).2.2.2.2.2.2.2.2.2.1, .bool (Zd.F a0 l1_0 b0 b1 b2 b3 b4 b5 b6 b7 b8 b9).2.2.2.2.2.2.2.2.2.2.1], .bool (Zd.F a0 l1_0 b0 b1 b2 b3 b4 b5 b6 b7 b8 b9).2.2.2.2.2.2.2.2.2.2.2]) := by
 refine w2 fun m' E' O a k c' hm' hE hO => ⟨_, _, Tryz.func44, rfl, by kernel_rfl, Nat.le_of_ble_eq_true rfl, ?_⟩
 unfold rowI
 generalize hn : l1_0.length = n0
 generalize hrd : (fun i => [AV.int (rd l1_0 i)]) = rd0
 unfold ZP.g
 generalize hf0 : ZP.F = f0
 unfold Zm.g
 generalize hf1 : Zm.F = f1
 unfold Zv.g
 generalize hf2 : Zv.F = f2
 unfold ZQ.g
 generalize hf3 : ZQ.F = f3
 unfold Zn.g
 generalize hf4 : Zn.F = f4
 generalize hf5 : Do.F = f5
 unfold Zac.g
 generalize hf6 : Zac.F = f6
 (try cbv)
 repeat' (apply And.intro <;> (try intro h) <;> (try cbv))
 all_goals (subst hm' hE hn hrd hO; subst hf0; subst hf1; subst hf2; subst hf3; subst hf4; subst hf5; subst hf6; (try dsimp only [std] at *); (try simp only [nt_, Int.ofNat_eq_natCast] at *); (try subst_vars)) <;> first | exact Or.inl ⟨rfl, rfl⟩ | exact Or.inr ⟨rfl, rfl⟩ | (simp only [Zd.F, Zd.f, AV.v, AV.vs, ZZ, rowI, ZaA, ZP.tot, Zm.tot, Zv.tot, ZQ.tot, Zn.tot, Do.tot, Zac.tot, Zd.j5, Zd.j1, Zd.j4, Zd.j3, Zd.j2, Zd.j0, nv_, reduceIte, bne_iff_ne, bne_self_eq_false, not_false_eq_true, not_true_eq_false, ne_eq, *] <;> first | exact Or.inl ⟨rfl, rfl⟩ | exact Or.inr ⟨rfl, rfl⟩ | exact Or.inr ⟨trivial, trivial⟩ | exact Or.inl ⟨trivial, trivial⟩ | exact Or.inl ⟨rfl, trivial⟩ | trivial) | (apply Or.inl; (simp_all (maxSteps := 1000000) [std, Zd.F, Zd.f, AV.v, AV.vs, ZZ, rowI, ZaA, ZP.tot, Zm.tot, Zv.tot, ZQ.tot, Zn.tot, Do.tot, Zac.tot, Zd.j5, Zd.j1, Zd.j4, Zd.j3, Zd.j2, Zd.j0] <;> (repeat' split) <;> first | rfl | exact ⟨rfl, rfl⟩ | (exfalso; omega) | omega | (simp_all; done) | (simp_all; omega))) | (apply Or.inr; (simp_all (maxSteps := 1000000) [std, Zd.F, Zd.f, AV.v, AV.vs, ZZ, rowI, ZaA, ZP.tot, Zm.tot, Zv.tot, ZQ.tot, Zn.tot, Do.tot, Zac.tot, Zd.j5, Zd.j1, Zd.j4, Zd.j3, Zd.j2, Zd.j0] <;> (repeat' split) <;> first | rfl | exact ⟨rfl, rfl⟩ | (exfalso; omega) | omega | (simp_all; done) | (simp_all; omega))) | (simp_all (maxSteps := 1000000) [std, Zd.F, Zd.f, AV.v, AV.vs, ZZ, rowI, ZaA, ZP.tot, Zm.tot, Zv.tot, ZQ.tot, Zn.tot, Do.tot, Zac.tot, Zd.j5, Zd.j1, Zd.j4, Zd.j3, Zd.j2, Zd.j0] <;> (repeat' split) <;> first | rfl | exact ⟨rfl, rfl⟩ | (exfalso; omega) | omega | (simp_all; done) | (simp_all; omega))
end Go.Proofs.YtgghglocfdcegaaGreat.Xec
