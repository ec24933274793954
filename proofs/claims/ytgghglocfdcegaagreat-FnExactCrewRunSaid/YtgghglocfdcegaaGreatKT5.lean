/- Part T5 of the proof of FnExactCrewStep and FnExactCrewRun (wip/xec, pack.py). No condition. -/
import Derived.Test.YtgghglocfdcegaaGreatKG
import Derived.Test.YtgghglocfdcegaaGreatKF
import Derived.Test.YtgghglocfdcegaaGreatKS3
namespace Go.Proofs.YtgghglocfdcegaaGreat.Xec
open Go Go.RowKit Go.Proofs.YtgghglocfdcegaaGreat.PFnExactCrewRun Go.Proofs.YtgghglocfdcegaaGreatW.PrintWords
set_option linter.unusedVariables false
set_option linter.unusedSimpArgs false
set_option maxRecDepth 100000
set_option maxHeartbeats 16000000
def Zj.j2 (a2 a3 a4 a1 a8 a9 c1 a5 c0 : Int) (a6 : Bool) (a7 : List Int) : Option (TL) := some (a7, a2, a3, a4, a1, a8, a9, c1, a5, c0, a6, true)
def Zj.j1 (x12 : Int) (c8 : Bool) (a2 a3 a4 a1 a8 a9 c1 a5 c0 : Int) (a6 : Bool) (a7 : List Int) : Option (TL) := if c8 = true then (Zj.j2 a2 a3 a4 (wrap64 (a1 + 1)) a8 a9 c1 a5 c0 a6 a7) else (if x12 = 0 then ((Zw.f a2 a3 a4 a1 a8 a9 c1 a5 c0 a6).bind fun c2 => (some (a7, c2.1, c2.2.1, c2.2.2.1, c2.2.2.2.1, c2.2.2.2.2.1, c2.2.2.2.2.2.1, c2.2.2.2.2.2.2.1, c2.2.2.2.2.2.2.2.1, c2.2.2.2.2.2.2.2.2.1, c2.2.2.2.2.2.2.2.2.2, true))) else ((ZO.f a2 a3 a4 a1 a8 a9 c1 a5 c0 a6 1).bind fun c3 => (some (a7, c3.1, c3.2.1, c3.2.2.1, c3.2.2.2.1, c3.2.2.2.2.1, c3.2.2.2.2.2.1, c3.2.2.2.2.2.2.1, c3.2.2.2.2.2.2.2.1, c3.2.2.2.2.2.2.2.2.1, c3.2.2.2.2.2.2.2.2.2, true))))
def Zj.j0 (x0 x12 : Int) (x41 : Bool) (a2 a3 a4 a1 a8 a9 c1 a5 c0 : Int) (a6 : Bool) (a7 : List Int) : Option (TL) := if x41 = true then (some (([] : List Int), 0, 0, 0, 0, 0, 0, 0, 0, 0, false, false)) else (if a1 = 0 then ((ZS.f x0 x12).bind fun c9 => (if c9 = true then ((Zv.f x0 a2 a3 a4 a1 a8 x12 c1 a5 c0 a6).bind fun c4 => (some (a7, c4.1, c4.2.1, c4.2.2.1, c4.2.2.2.1, c4.2.2.2.2.1, c4.2.2.2.2.2.1, c4.2.2.2.2.2.2.1, c4.2.2.2.2.2.2.2.1, c4.2.2.2.2.2.2.2.2.1, c4.2.2.2.2.2.2.2.2.2, true))) else (some (([] : List Int), 0, 0, 0, 0, 0, 0, 0, 0, 0, false, false)))) else (if a1 = 1 then ((ZS.f x0 x12).bind fun d0 => (if d0 = true then (if (Int.tmod x12 2) = 1 then (if a2 = 3 then (Zj.j2 a2 a3 a4 2 a8 a9 x12 a5 c0 a6 a7) else (Zj.j2 a2 a3 a4 3 a8 a9 x12 a5 c0 a6 a7)) else (Zj.j2 a2 a3 a4 2 a8 a9 x12 a5 c0 a6 a7)) else (some (([] : List Int), 0, 0, 0, 0, 0, 0, 0, 0, 0, false, false)))) else (if a1 = 2 then ((Zz.f a2 a3 a4 a1 a8 a9 c1 a5 x12 a6).bind fun c5 => (some (a7, c5.1, c5.2.1, c5.2.2.1, c5.2.2.2.1, c5.2.2.2.2.1, c5.2.2.2.2.2.1, c5.2.2.2.2.2.2.1, c5.2.2.2.2.2.2.2.1, c5.2.2.2.2.2.2.2.2.1, c5.2.2.2.2.2.2.2.2.2, true))) else (if a1 = 3 then (if x12 = 0 then (Zj.j2 a2 a3 a4 0 0 a9 c1 a5 c0 a6 a7) else (Zj.j2 a2 a3 a4 0 a8 a9 c1 a5 c0 a6 a7)) else (if a1 = 4 then (Zj.j1 x12 (a1 == 4) a2 a3 a4 a1 a8 a9 c1 a5 c0 a6 a7) else (Zj.j1 x12 (a1 == 5) a2 a3 a4 a1 a8 a9 c1 a5 c0 a6 a7))))))
def Zj.f (a0 : Int) (l1_0 : List Int) (b0 b1 b2 b3 b4 b5 b6 b7 b8 : Int) (b9 : Bool) : Option (TL) := (Z2.f a0 b0 b1 b2 b3 b4 b5 b6 b7 b8 b9).bind fun c7 => ((Do.f l1_0 c7.1 c7.2.1 c7.2.2.1 c7.2.2.2.1).bind fun c6 => (if c7.2.2.2.2 = true then (if c6.2.2 = true then (Zj.j0 a0 c6.2.1 ((l1_0.length : Int) != (wrap64 (1 + (wrap64 (2 * a0))))) b0 b1 b2 b3 b4 b5 b6 b7 b8 b9 c6.1) else (Zj.j0 a0 c6.2.1 true b0 b1 b2 b3 b4 b5 b6 b7 b8 b9 c6.1)) else (Zj.j0 a0 c6.2.1 true b0 b1 b2 b3 b4 b5 b6 b7 b8 b9 c6.1)))
def Zj.F (a0 : Int) (l1_0 : List Int) (b0 b1 b2 b3 b4 b5 b6 b7 b8 : Int) (b9 : Bool) : TL := (Zj.f a0 l1_0 b0 b1 b2 b3 b4 b5 b6 b7 b8 b9).getD ([], 0, 0, 0, 0, 0, 0, 0, 0, 0, false, false)
theorem Zj.j2.isS (a2 a3 a4 a1 a8 a9 c1 a5 c0 : Int) (a6 : Bool) (a7 : List Int) : ∃ r, Zj.j2 a2 a3 a4 a1 a8 a9 c1 a5 c0 a6 a7 = some r := by
 unfold Zj.j2
 (try simp only [Do.tot, ZS.tot, Z2.tot, Zw.tot, ZO.tot, Zv.tot, Zz.tot, Option.bind_some])
 repeat' (first | exact ⟨_, rfl⟩ | (exfalso; omega) | split)
theorem Zj.j1.isS (x12 : Int) (c8 : Bool) (a2 a3 a4 a1 a8 a9 c1 a5 c0 : Int) (a6 : Bool) (a7 : List Int) : ∃ r, Zj.j1 x12 c8 a2 a3 a4 a1 a8 a9 c1 a5 c0 a6 a7 = some r := by
 unfold Zj.j1
 (try simp only [Do.tot, ZS.tot, Z2.tot, Zw.tot, ZO.tot, Zv.tot, Zz.tot, Option.bind_some])
 repeat' (first | exact ⟨_, rfl⟩ | exact Zj.j2.isS .. | (exfalso; omega) | split)
theorem Zj.j0.isS (x0 x12 : Int) (x41 : Bool) (a2 a3 a4 a1 a8 a9 c1 a5 c0 : Int) (a6 : Bool) (a7 : List Int) : ∃ r, Zj.j0 x0 x12 x41 a2 a3 a4 a1 a8 a9 c1 a5 c0 a6 a7 = some r := by
 unfold Zj.j0
 (try simp only [Do.tot, ZS.tot, Z2.tot, Zw.tot, ZO.tot, Zv.tot, Zz.tot, Option.bind_some])
 repeat' (first | exact ⟨_, rfl⟩ | exact Zj.j2.isS .. | exact Zj.j1.isS .. | (exfalso; omega) | split)
theorem Zj.f.isS (a0 : Int) (l1_0 : List Int) (b0 b1 b2 b3 b4 b5 b6 b7 b8 : Int) (b9 : Bool) : ∃ r, Zj.f a0 l1_0 b0 b1 b2 b3 b4 b5 b6 b7 b8 b9 = some r := by
 unfold Zj.f
 (try simp only [Do.tot, ZS.tot, Z2.tot, Zw.tot, ZO.tot, Zv.tot, Zz.tot, Option.bind_some])
 repeat' (first | exact ⟨_, rfl⟩ | exact Zj.j2.isS .. | exact Zj.j1.isS .. | exact Zj.j0.isS .. | (exfalso; omega) | split)
theorem Zj.tot (a0 : Int) (l1_0 : List Int) (b0 b1 b2 b3 b4 b5 b6 b7 b8 : Int) (b9 : Bool) : Zj.f a0 l1_0 b0 b1 b2 b3 b4 b5 b6 b7 b8 b9 = some (Zj.F a0 l1_0 b0 b1 b2 b3 b4 b5 b6 b7 b8 b9) := by
 obtain ⟨r, h⟩ := Zj.f.isS a0 l1_0 b0 b1 b2 b3 b4 b5 b6 b7 b8 b9
 unfold Zj.F
 rw [h]
 rfl
theorem Zj.walk (A1_0 : Option Addr) (c1_0 : Nat) (a0 : Int) (l1_0 : List Int) (b0 b1 b2 b3 b4 b5 b6 b7 b8 : Int) (b9 : Bool) : Zb1 46 [(73, ZS.g), (72, Z2.g), (76, Zw.g), (77, ZO.g), (74, Zv.g), (75, Zz.g)] [] [(65, Do.g Do.F 0 l1_0)] [rowI A1_0 c1_0 l1_0] 7 1500 [.int a0, .agg [.sl 0], .agg [.int b0, .int b1, .int b2, .int b3, .int b4, .int b5, .int b6, .int b7, .int b8, .bool b9]] ((Zj.F a0 l1_0 b0 b1 b2 b3 b4 b5 b6 b7 b8 b9).1) (fun v0_ => .tuple #[.agg #[v0_], .agg #[.int .i64 (Zj.F a0 l1_0 b0 b1 b2 b3 b4 b5 b6 b7 b8 b9).2.1, .int .i64 (Zj.F a0 l1_0 b0 b1 b2 b3 b4 b5 b6 b7 b8 b9).2.2.1, .int .i64 (Zj.F a0 l1_0 b0 b1 b2 b3 b4 b5 b6 b7 b8 b9).2.2.2.1, .int .i64 (Zj.F a0 l1_0 b0 b1 b2 b3 b4 b5 b6 b7 b8 b9).2.2.2.2.1, .int .i64 (Zj.F a0 l1_0 b0 b1 b2 b3 b4 b5 b6 b7 b8 b9).2.2.2.2.2.1, .int .i64 (Zj.F a0 l1_0 b0 b1 b2 b3 b4 b5 b6 b7 b8 b9).2.2.2.2.2.2.1, .int .i64 (Zj.F a0 l1_0 b0 b1 b2 b3 b4 b5 b6 b7 b8 b9).2.2.2.2.2.2.2.1, .int .i64 (Zj.F a0 l1_0 b0 b1 b2 b3 b4 b5 b6 b7 b8 b9).2.2.2.2.2.2.2.2.1, .int .i64 (Zj.F a0 l1_0 b0 b1 b2 b3 b4 b5 b6 b7 b8 b9).2.2.2.2.2.2.2.2.2.1, .bool (Zj.F a0 l1_0 b0 b1 b2 b3 b4 b5 b6 b7 b8 b9).2.2.2.2.2.2.2.2.2.2.1], .bool (Zj.F a0 l1_0 b0 b1 b2 b3 b4 b5 b6 b7 b8 b9).2.2.2.2.2.2.2.2.2.2.2]) := by
 refine w2 fun m' E' O a k c' hm' hE hO => ⟨_, _, Tryz.func46, rfl, by kernel_rfl, Nat.le_of_ble_eq_true rfl, ?_⟩
 unfold rowI
 generalize hn : l1_0.length = n0
 generalize hrd : (fun i => [AV.int (rd l1_0 i)]) = rd0
 generalize hf0 : Do.F = f0
 unfold ZS.g
 generalize hf1 : ZS.F = f1
 unfold Z2.g
 generalize hf2 : Z2.F = f2
 unfold Zw.g
 generalize hf3 : Zw.F = f3
 unfold ZO.g
 generalize hf4 : ZO.F = f4
 unfold Zv.g
 generalize hf5 : Zv.F = f5
 unfold Zz.g
 generalize hf6 : Zz.F = f6
 (try cbv)
 repeat' (apply And.intro <;> (try intro h) <;> (try cbv))
 all_goals (subst hm' hE hn hrd hO; subst hf0; subst hf1; subst hf2; subst hf3; subst hf4; subst hf5; subst hf6; (try dsimp only [std] at *); (try simp only [nt_] at *)) <;> (first | (apply Or.inl; first | rfl | exact ⟨rfl, rfl⟩ | (simp only [Zj.F, Zj.f, AV.v, AV.vs, ZT, rowI, Zav, Do.tot, ZS.tot, Z2.tot, Zw.tot, ZO.tot, Zv.tot, Zz.tot, Zj.j2, Zj.j1, Zj.j0, nv_, reduceIte, *]; done) | (simp only [Zj.F, Zj.f, AV.v, AV.vs, ZT, rowI, Zav, Do.tot, ZS.tot, Z2.tot, Zw.tot, ZO.tot, Zv.tot, Zz.tot, Zj.j2, Zj.j1, Zj.j0, nv_, reduceIte, *]; exact ⟨rfl, rfl⟩) | (simp_all (maxSteps := 1000000) [std, Zj.F, Zj.f, AV.v, AV.vs, ZT, rowI, Zav, Do.tot, ZS.tot, Z2.tot, Zw.tot, ZO.tot, Zv.tot, Zz.tot, Zj.j2, Zj.j1, Zj.j0]; done) | (simp only [Zj.F, Zj.f, AV.v, AV.vs, ZT, rowI, Zav, Do.tot, ZS.tot, Z2.tot, Zw.tot, ZO.tot, Zv.tot, Zz.tot, Zj.j2, Zj.j1, Zj.j0, nv_, reduceIte, *]; (repeat' split) <;> first | rfl | exact ⟨rfl, rfl⟩ | (exfalso; omega) | omega | (simp_all; done) | (simp_all; omega)) | (simp_all (maxSteps := 1000000) [std, Zj.F, Zj.f, AV.v, AV.vs, ZT, rowI, Zav, Do.tot, ZS.tot, Z2.tot, Zw.tot, ZO.tot, Zv.tot, Zz.tot, Zj.j2, Zj.j1, Zj.j0]; (repeat' split) <;> first | rfl | exact ⟨rfl, rfl⟩ | (exfalso; omega) | omega | (simp_all; done) | (simp_all; omega))) | (apply Or.inr; first | rfl | exact ⟨rfl, rfl⟩ | (simp only [Zj.F, Zj.f, AV.v, AV.vs, ZT, rowI, Zav, Do.tot, ZS.tot, Z2.tot, Zw.tot, ZO.tot, Zv.tot, Zz.tot, Zj.j2, Zj.j1, Zj.j0, nv_, reduceIte, *]; done) | (simp only [Zj.F, Zj.f, AV.v, AV.vs, ZT, rowI, Zav, Do.tot, ZS.tot, Z2.tot, Zw.tot, ZO.tot, Zv.tot, Zz.tot, Zj.j2, Zj.j1, Zj.j0, nv_, reduceIte, *]; exact ⟨rfl, rfl⟩) | (simp_all (maxSteps := 1000000) [std, Zj.F, Zj.f, AV.v, AV.vs, ZT, rowI, Zav, Do.tot, ZS.tot, Z2.tot, Zw.tot, ZO.tot, Zv.tot, Zz.tot, Zj.j2, Zj.j1, Zj.j0]; done) | (simp only [Zj.F, Zj.f, AV.v, AV.vs, ZT, rowI, Zav, Do.tot, ZS.tot, Z2.tot, Zw.tot, ZO.tot, Zv.tot, Zz.tot, Zj.j2, Zj.j1, Zj.j0, nv_, reduceIte, *]; (repeat' split) <;> first | rfl | exact ⟨rfl, rfl⟩ | (exfalso; omega) | omega | (simp_all; done) | (simp_all; omega)) | (simp_all (maxSteps := 1000000) [std, Zj.F, Zj.f, AV.v, AV.vs, ZT, rowI, Zav, Do.tot, ZS.tot, Z2.tot, Zw.tot, ZO.tot, Zv.tot, Zz.tot, Zj.j2, Zj.j1, Zj.j0]; (repeat' split) <;> first | rfl | exact ⟨rfl, rfl⟩ | (exfalso; omega) | omega | (simp_all; done) | (simp_all; omega))) | (first | rfl | exact ⟨rfl, rfl⟩ | (simp only [Zj.F, Zj.f, AV.v, AV.vs, ZT, rowI, Zav, Do.tot, ZS.tot, Z2.tot, Zw.tot, ZO.tot, Zv.tot, Zz.tot, Zj.j2, Zj.j1, Zj.j0, nv_, reduceIte, *]; done) | (simp only [Zj.F, Zj.f, AV.v, AV.vs, ZT, rowI, Zav, Do.tot, ZS.tot, Z2.tot, Zw.tot, ZO.tot, Zv.tot, Zz.tot, Zj.j2, Zj.j1, Zj.j0, nv_, reduceIte, *]; exact ⟨rfl, rfl⟩) | (simp_all (maxSteps := 1000000) [std, Zj.F, Zj.f, AV.v, AV.vs, ZT, rowI, Zav, Do.tot, ZS.tot, Z2.tot, Zw.tot, ZO.tot, Zv.tot, Zz.tot, Zj.j2, Zj.j1, Zj.j0]; done) | (simp only [Zj.F, Zj.f, AV.v, AV.vs, ZT, rowI, Zav, Do.tot, ZS.tot, Z2.tot, Zw.tot, ZO.tot, Zv.tot, Zz.tot, Zj.j2, Zj.j1, Zj.j0, nv_, reduceIte, *]; (repeat' split) <;> first | rfl | exact ⟨rfl, rfl⟩ | (exfalso; omega) | omega | (simp_all; done) | (simp_all; omega)) | (simp_all (maxSteps := 1000000) [std, Zj.F, Zj.f, AV.v, AV.vs, ZT, rowI, Zav, Do.tot, ZS.tot, Z2.tot, Zw.tot, ZO.tot, Zv.tot, Zz.tot, Zj.j2, Zj.j1, Zj.j0]; (repeat' split) <;> first | rfl | exact ⟨rfl, rfl⟩ | (exfalso; omega) | omega | (simp_all; done) | (simp_all; omega))))
end Go.Proofs.YtgghglocfdcegaaGreat.Xec
