/- Part T5 of the proof of FnExactCrewStep and FnExactCrewRun (wip/xec, pack.py). No condition. -/
import Derived.Test.YtgghglocfdcegaaGreatKG
import Derived.Test.YtgghglocfdcegaaGreatKF
import Derived.Test.YtgghglocfdcegaaGreatKS3
namespace Go.Proofs.YtgghglocfdcegaaGreat.Xec
open Go Go.RowKit Go.Proofs.YtgghglocfdcegaaGreat.PFnExactCrewRun Go.Proofs.YtgghglocfdcegaaGreatW.PrintWords
set_option linter.unusedVariables false
set_option linter.unusedSimpArgs false
set_option maxRecDepth 100000
set_option maxHeartbeats 16000000
def Zo.j2 (a2 a3 a4 a1 a8 a9 c1 a5 c0 : Int) (a6 : Bool) (a7 : List Int) : Option (TL) := some (a7, a2, a3, a4, a1, a8, a9, c1, a5, c0, a6, true)
def Zo.j1 (x12 : Int) (c8 : Bool) (a2 a3 a4 a1 a8 a9 c1 a5 c0 : Int) (a6 : Bool) (a7 : List Int) : Option (TL) := if c8 = true then (Zo.j2 a2 a3 a4 (wrap64 (a1 + 1)) a8 a9 c1 a5 c0 a6 a7) else (if x12 = 0 then ((Zz.f a2 a3 a4 a1 a8 a9 c1 a5 c0 a6).bind fun c2 => (some (a7, c2.1, c2.2.1, c2.2.2.1, c2.2.2.2.1, c2.2.2.2.2.1, c2.2.2.2.2.2.1, c2.2.2.2.2.2.2.1, c2.2.2.2.2.2.2.2.1, c2.2.2.2.2.2.2.2.2.1, c2.2.2.2.2.2.2.2.2.2, true))) else ((ZS.f a2 a3 a4 a1 a8 a9 c1 a5 c0 a6 1).bind fun c3 => (some (a7, c3.1, c3.2.1, c3.2.2.1, c3.2.2.2.1, c3.2.2.2.2.1, c3.2.2.2.2.2.1, c3.2.2.2.2.2.2.1, c3.2.2.2.2.2.2.2.1, c3.2.2.2.2.2.2.2.2.1, c3.2.2.2.2.2.2.2.2.2, true))))
def Zo.j0 (x0 x12 : Int) (x41 : Bool) (a2 a3 a4 a1 a8 a9 c1 a5 c0 : Int) (a6 : Bool) (a7 : List Int) : Option (TL) := if x41 = true then (some (([] : List Int), 0, 0, 0, 0, 0, 0, 0, 0, 0, false, false)) else (if a1 = 0 then ((ZV.f x0 x12).bind fun c9 => (if c9 = true then ((Zy.f x0 a2 a3 a4 a1 a8 x12 c1 a5 c0 a6).bind fun c4 => (some (a7, c4.1, c4.2.1, c4.2.2.1, c4.2.2.2.1, c4.2.2.2.2.1, c4.2.2.2.2.2.1, c4.2.2.2.2.2.2.1, c4.2.2.2.2.2.2.2.1, c4.2.2.2.2.2.2.2.2.1, c4.2.2.2.2.2.2.2.2.2, true))) else (some (([] : List Int), 0, 0, 0, 0, 0, 0, 0, 0, 0, false, false)))) else (if a1 = 1 then ((ZV.f x0 x12).bind fun d0 => (if d0 = true then (if (Int.tmod x12 2) = 1 then (if a2 = 3 then (Zo.j2 a2 a3 a4 2 a8 a9 x12 a5 c0 a6 a7) else (Zo.j2 a2 a3 a4 3 a8 a9 x12 a5 c0 a6 a7)) else (Zo.j2 a2 a3 a4 2 a8 a9 x12 a5 c0 a6 a7)) else (some (([] : List Int), 0, 0, 0, 0, 0, 0, 0, 0, 0, false, false)))) else (if a1 = 2 then ((ZR.f a2 a3 a4 a1 a8 a9 c1 a5 x12 a6).bind fun c5 => (some (a7, c5.1, c5.2.1, c5.2.2.1, c5.2.2.2.1, c5.2.2.2.2.1, c5.2.2.2.2.2.1, c5.2.2.2.2.2.2.1, c5.2.2.2.2.2.2.2.1, c5.2.2.2.2.2.2.2.2.1, c5.2.2.2.2.2.2.2.2.2, true))) else (if a1 = 3 then (if x12 = 0 then (Zo.j2 a2 a3 a4 0 0 a9 c1 a5 c0 a6 a7) else (Zo.j2 a2 a3 a4 0 a8 a9 c1 a5 c0 a6 a7)) else (if a1 = 4 then (Zo.j1 x12 (a1 == 4) a2 a3 a4 a1 a8 a9 c1 a5 c0 a6 a7) else (Zo.j1 x12 (a1 == 5) a2 a3 a4 a1 a8 a9 c1 a5 c0 a6 a7))))))
def Zo.f (a0 : Int) (l1_0 : List Int) (b0 b1 b2 b3 b4 b5 b6 b7 b8 : Int) (b9 : Bool) : Option (TL) := (Zai.f a0 b0 b1 b2 b3 b4 b5 b6 b7 b8 b9).bind fun c7 => ((Do.f l1_0 c7.1 c7.2.1 c7.2.2.1 c7.2.2.2.1).bind fun c6 => (if c7.2.2.2.2 = true then (if c6.2.2 = true then (Zo.j0 a0 c6.2.1 ((l1_0.length : Int) != (wrap64 (1 + (wrap64 (2 * a0))))) b0 b1 b2 b3 b4 b5 b6 b7 b8 b9 c6.1) else (Zo.j0 a0 c6.2.1 true b0 b1 b2 b3 b4 b5 b6 b7 b8 b9 c6.1)) else (Zo.j0 a0 c6.2.1 true b0 b1 b2 b3 b4 b5 b6 b7 b8 b9 c6.1)))
def Zo.F (a0 : Int) (l1_0 : List Int) (b0 b1 b2 b3 b4 b5 b6 b7 b8 : Int) (b9 : Bool) : TL := (Zo.f a0 l1_0 b0 b1 b2 b3 b4 b5 b6 b7 b8 b9).getD ([], 0, 0, 0, 0, 0, 0, 0, 0, 0, false, false)
theorem Zo.j2.isS (a2 a3 a4 a1 a8 a9 c1 a5 c0 : Int) (a6 : Bool) (a7 : List Int) : ∃ r, Zo.j2 a2 a3 a4 a1 a8 a9 c1 a5 c0 a6 a7 = some r := by
 unfold Zo.j2
 (try simp only [Do.tot, ZV.tot, Zai.tot, Zz.tot, ZS.tot, Zy.tot, ZR.tot, Option.bind_some])
 repeat' (first | exact ⟨_, rfl⟩ | (exfalso; omega) | split)
theorem Zo.j1.isS (x12 : Int) (c8 : Bool) (a2 a3 a4 a1 a8 a9 c1 a5 c0 : Int) (a6 : Bool) (a7 : List Int) : ∃ r, Zo.j1 x12 c8 a2 a3 a4 a1 a8 a9 c1 a5 c0 a6 a7 = some r := by
 unfold Zo.j1
 (try simp only [Do.tot, ZV.tot, Zai.tot, Zz.tot, ZS.tot, Zy.tot, ZR.tot, Option.bind_some])
 repeat' (first | exact ⟨_, rfl⟩ | exact Zo.j2.isS .. | (exfalso; omega) | split)
theorem Zo.j0.isS (x0 x12 : Int) (x41 : Bool) (a2 a3 a4 a1 a8 a9 c1 a5 c0 : Int) (a6 : Bool) (a7 : List Int) : ∃ r, Zo.j0 x0 x12 x41 a2 a3 a4 a1 a8 a9 c1 a5 c0 a6 a7 = some r := by
 unfold Zo.j0
 (try simp only [Do.tot, ZV.tot, Zai.tot, Zz.tot, ZS.tot, Zy.tot, ZR.tot, Option.bind_some])
 repeat' (first | exact ⟨_, rfl⟩ | exact Zo.j2.isS .. | exact Zo.j1.isS .. | (exfalso; omega) | split)
theorem Zo.f.isS (a0 : Int) (l1_0 : List Int) (b0 b1 b2 b3 b4 b5 b6 b7 b8 : Int) (b9 : Bool) : ∃ r, Zo.f a0 l1_0 b0 b1 b2 b3 b4 b5 b6 b7 b8 b9 = some r := by
 unfold Zo.f
 (try simp only [Do.tot, ZV.tot, Zai.tot, Zz.tot, ZS.tot, Zy.tot, ZR.tot, Option.bind_some])
 repeat' (first | exact ⟨_, rfl⟩ | exact Zo.j2.isS .. | exact Zo.j1.isS .. | exact Zo.j0.isS .. | (exfalso; omega) | split)
theorem Zo.tot (a0 : Int) (l1_0 : List Int) (b0 b1 b2 b3 b4 b5 b6 b7 b8 : Int) (b9 : Bool) : Zo.f a0 l1_0 b0 b1 b2 b3 b4 b5 b6 b7 b8 b9 = some (Zo.F a0 l1_0 b0 b1 b2 b3 b4 b5 b6 b7 b8 b9) := by
 obtain ⟨r, h⟩ := Zo.f.isS a0 l1_0 b0 b1 b2 b3 b4 b5 b6 b7 b8 b9
 unfold Zo.F
 rw [h]
 rfl
theorem Zo.walk (A1_0 : Option Addr) (c1_0 : Nat) (a0 : Int) (l1_0 : List Int) (b0 b1 b2 b3 b4 b5 b6 b7 b8 : Int) (b9 : Bool) : Zb1 46 [(73, ZV.g), (72, Zai.g), (76, Zz.g), (77, ZS.g), (74, Zy.g), (75, ZR.g)] [] [(65, Do.g Do.F 0 l1_0)] [rowI A1_0 c1_0 l1_0] 7 1500 [.int a0, .agg [.sl 0], .agg [.int b0, .int b1, .int b2, .int b3, .int b4, .int b5, .int b6, .int b7, .int b8, .bool b9]] ((Zo.F a0 l1_0 b0 b1 b2 b3 b4 b5 b6 b7 b8 b9).1) (fun v0_ => .tuple #[.agg #[v0_], .agg #[.int .i64 (Zo.F a0 l1_0 b0 b1 b2 b3 b4 b5 b6 b7 b8 b9).2.1, .int .i64 (Zo.F a0 l1_0 b0 b1 b2 b3 b4 b5 b6 b7 b8 b9).2.2.1, .int .i64 (Zo.F a0 l1_0 b0 b1 b2 b3 b4 b5 b6 b7 b8 b9).2.2.2.1, .int .i64 (Zo.F a0 l1_0 b0 b1 b2 b3 b4 b5 b6 b7 b8 b9).2.2.2.2.1, .int .i64 (Zo.F a0 l1_0 b0 b1 b2 b3 b4 b5 b6 b7 b8 b9).2.2.2.2.2.1, .int .i64 (Zo.F a0 l1_0 b0 b1 b2 b3 b4 b5 b6 b7 b8 b9).2.2.2.2.2.2.1, .int .i64 (Zo.F a0 l1_0 b0 b1 b2 b3 b4 b5 b6 b7 b8 b9).2.2.2.2.2.2.2.1, .int .i64 (Zo.F a0 l1_0 b0 b1 b2 b3 b4 b5 b6 b7 b8 b9).2.2.2.2.2.2.2.2.1, .int .i64 (Zo.F a0 l1_0 b0 b1 b2 b3 b4 b5 b6 b7 b8 b9).2.2.2.2.2.2.2.2.2.1, .bool (Zo.F a0 l1_0 b0 b1 b2 b3 b4 b5 b6 b7 b8 b9).2.2.2.2.2.2.2.2.2.2.1], .bool (Zo.F a0 l1_0 b0 b1 b2 b3 b4 b5 b6 b7 b8 b9).2.2.2.2.2.2.2.2.2.2.2]) := by
 refine w2 fun m' E' O a k c' hm' hE hO => ⟨_, _, Tryz.func46, rfl, by kernel_rfl, Nat.le_of_ble_eq_true rfl, ?_⟩
 unfold rowI
 generalize hn : l1_0.length = n0
 generalize hrd : (fun i => [AV.int (rd l1_0 i)]) = rd0
 generalize hf0 : Do.F = f0
 unfold ZV.g
 generalize hf1 : ZV.F = f1
 unfold Zai.g
 generalize hf2 : Zai.F = f2
 unfold Zz.g
 generalize hf3 : Zz.F = f3
 unfold ZS.g
 generalize hf4 : ZS.F = f4
 unfold Zy.g
 generalize hf5 : Zy.F = f5
 unfold ZR.g
 generalize hf6 : ZR.F = f6
 (try cbv)
 repeat' (apply And.intro <;> (try intro h) <;> (try cbv))
 all_goals (subst hm' hE hn hrd hO; subst hf0; subst hf1; subst hf2; subst hf3; subst hf4; subst hf5; subst hf6; (try dsimp only [std] at *); (try simp only [nt_, Int.ofNat_eq_natCast] at *); (try subst_vars)) <;> first | exact Or.inl ⟨rfl, rfl⟩ | exact Or.inr ⟨rfl, rfl⟩ | (simp only [Zo.F, Zo.f, AV.v, AV.vs, ZZ, rowI, ZaA, Do.tot, ZV.tot, Zai.tot, Zz.tot, ZS.tot, Zy.tot, ZR.tot, Zo.j2, Zo.j1, Zo.j0, nv_, reduceIte, bne_iff_ne, bne_self_eq_false, not_false_eq_true, not_true_eq_false, ne_eq, *] <;> first | exact Or.inl ⟨rfl, rfl⟩ | exact Or.inr ⟨rfl, rfl⟩ | exact Or.inr ⟨trivial, trivial⟩ | exact Or.inl ⟨trivial, trivial⟩ | exact Or.inl ⟨rfl, trivial⟩ | trivial) | (apply Or.inl; (simp_all (maxSteps := 1000000) [std, Zo.F, Zo.f, AV.v, AV.vs, ZZ, rowI, ZaA, Do.tot, ZV.tot, Zai.tot, Zz.tot, ZS.tot, Zy.tot, ZR.tot, Zo.j2, Zo.j1, Zo.j0] <;> (repeat' split) <;> first | rfl | exact ⟨rfl, rfl⟩ | (exfalso; omega) | omega | (simp_all; done) | (simp_all; omega))) | (apply Or.inr; (simp_all (maxSteps := 1000000) [std, Zo.F, Zo.f, AV.v, AV.vs, ZZ, rowI, ZaA, Do.tot, ZV.tot, Zai.tot, Zz.tot, ZS.tot, Zy.tot, ZR.tot, Zo.j2, Zo.j1, Zo.j0] <;> (repeat' split) <;> first | rfl | exact ⟨rfl, rfl⟩ | (exfalso; omega) | omega | (simp_all; done) | (simp_all; omega))) | (simp_all (maxSteps := 1000000) [std, Zo.F, Zo.f, AV.v, AV.vs, ZZ, rowI, ZaA, Do.tot, ZV.tot, Zai.tot, Zz.tot, ZS.tot, Zy.tot, ZR.tot, Zo.j2, Zo.j1, Zo.j0] <;> (repeat' split) <;> first | rfl | exact ⟨rfl, rfl⟩ | (exfalso; omega) | omega | (simp_all; done) | (simp_all; omega))
end Go.Proofs.YtgghglocfdcegaaGreat.Xec
