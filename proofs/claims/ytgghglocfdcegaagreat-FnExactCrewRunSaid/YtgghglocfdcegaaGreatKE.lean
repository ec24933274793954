/- Part E of the proof of FnExactCrewStep and FnExactCrewRun (wip/xec, pack.py). No condition. -/
import Derived.Test.YtgghglocfdcegaaGreatKC
namespace Go.Proofs.YtgghglocfdcegaaGreat.Xec
open Go Go.RowKit Go.Proofs.YtgghglocfdcegaaGreat.PFnExactCrewRun Go.Proofs.YtgghglocfdcegaaGreatW.PrintWords
set_option linter.unusedVariables false
set_option linter.unusedSimpArgs false
set_option maxRecDepth 100000
set_option maxHeartbeats 16000000
theorem w1 {f : FuncId} {dep n : Nat} {L : List (FuncId × (List AV → Option AV))} {args : List AV} {v : Value} (h : ∀ u O, u = v → O = std → ∃ fn c, Tryz.prog.funcs[f]? = some fn ∧ fn.body = some c ∧ ZaB c = true ∧ args.length ≤ fn.ntmps ∧ (seg (mkX O L) n [.code c] (ZaY dep fn.ntmps (Zbo args) [])).holds (Ans (mkX O L) fn.results.toList u)) : Walk f L dep n args v := by
 obtain ⟨fn, c, h1, h2, h3, h4, -⟩ := h v std rfl rfl
 refine ⟨fn, c, h1, h2, h3, h4, fun O hO => ?_⟩
 obtain ⟨fn', c', h1', h2', -, -, h5⟩ := h v O rfl hO
 rw [h1] at h1'
 injection h1' with e
 subst e
 rw [h2] at h2'
 injection h2' with e
 subst e
 exact h5
def impl_within.f (a0 a1 a2 : Int) : Option (Bool) := if a0 ≥ a1 then (some (decide (a0 ≤ a2))) else (some false)
def impl_within.F (a0 a1 a2 : Int) : Bool := (impl_within.f a0 a1 a2).getD (false)
theorem impl_within.f.isS (a0 a1 a2 : Int) : ∃ r, impl_within.f a0 a1 a2 = some r := by
 unfold impl_within.f
 repeat' (first | exact ⟨_, rfl⟩ | (exfalso; omega) | split)
theorem impl_within.tot (a0 a1 a2 : Int) : impl_within.f a0 a1 a2 = some (impl_within.F a0 a1 a2) := by
 obtain ⟨r, h⟩ := impl_within.f.isS a0 a1 a2
 unfold impl_within.F
 rw [h]
 rfl
def impl_within.g : List AV → Option AV
 | [x0, x1, x2] => (i1 x0).bind fun c0 => (i1 x1).bind fun c1 => (i1 x2).bind fun c2 => some (.bool (impl_within.F c0 c1 c2))
 | _ => none
theorem impl_within.walk (a0 a1 a2 : Int) : Walk 82 [] 4 900 [.int a0, .int a1, .int a2] ((.bool (impl_within.F a0 a1 a2) : AV).v R0) := by
 refine w1 fun v O hv hO => ⟨_, _, Tryz.func82, rfl, by kernel_rfl, Nat.le_of_ble_eq_true rfl, ?_⟩
 (try cbv)
 repeat' (apply And.intro <;> (try intro h) <;> (try cbv))
 all_goals (subst hv hO; (try dsimp only [std] at *); (try simp only [nt_] at *)) <;> first | rfl | (simp only [impl_within.F, impl_within.f, AV.v, AV.vs, nv_, reduceIte, *]; done) | (simp_all (maxSteps := 1000000) [std, impl_within.F, impl_within.f, AV.v, AV.vs] <;> (repeat' split) <;> first | rfl | omega | (simp_all; done) | (simp_all; omega))
theorem impl_within.fn : Fn 82 impl_within.g := by
 refine ⟨⟨_, Tryz.func82, rfl, rfl⟩, fun R l v hg w => ?_⟩
 unfold impl_within.g at hg
 split at hg
 ·rename_i x0 x1 x2
  obtain ⟨c0, e0, hg⟩ := Option.bind_eq_some_iff.1 hg
  obtain ⟨c1, e1, hg⟩ := Option.bind_eq_some_iff.1 hg
  obtain ⟨c2, e2, hg⟩ := Option.bind_eq_some_iff.1 hg
  injection hg with hg
  subst hg
  have := (impl_within.walk c0 c1 c2).calls ZW w
  simpa only [AV.vs, AV.v, clA, i1_v R e0, i1_v R e1, i1_v R e2] using this
 ·cases hg
def ZP.f (a0 a1 a2 : Int) : Option (Bool) := if a0 ≥ a1 then (some (decide (a0 ≤ a2))) else (some false)
def ZP.F (a0 a1 a2 : Int) : Bool := (ZP.f a0 a1 a2).getD (false)
theorem ZP.f.isS (a0 a1 a2 : Int) : ∃ r, ZP.f a0 a1 a2 = some r := by
 unfold ZP.f
 repeat' (first | exact ⟨_, rfl⟩ | (exfalso; omega) | split)
theorem ZP.tot (a0 a1 a2 : Int) : ZP.f a0 a1 a2 = some (ZP.F a0 a1 a2) := by
 obtain ⟨r, h⟩ := ZP.f.isS a0 a1 a2
 unfold ZP.F
 rw [h]
 rfl
def ZP.g : List AV → Option AV
 | [x0, x1, x2] => (i1 x0).bind fun c0 => (i1 x1).bind fun c1 => (i1 x2).bind fun c2 => some (.bool (ZP.F c0 c1 c2))
 | _ => none
theorem ZP.walk (a0 a1 a2 : Int) : Walk 68 [] 4 900 [.int a0, .int a1, .int a2] ((.bool (ZP.F a0 a1 a2) : AV).v R0) := by
 refine w1 fun v O hv hO => ⟨_, _, Tryz.func68, rfl, by kernel_rfl, Nat.le_of_ble_eq_true rfl, ?_⟩
 (try cbv)
 repeat' (apply And.intro <;> (try intro h) <;> (try cbv))
 all_goals (subst hv hO; (try dsimp only [std] at *); (try simp only [nt_] at *)) <;> first | rfl | (simp only [ZP.F, ZP.f, AV.v, AV.vs, nv_, reduceIte, *]; done) | (simp_all (maxSteps := 1000000) [std, ZP.F, ZP.f, AV.v, AV.vs] <;> (repeat' split) <;> first | rfl | omega | (simp_all; done) | (simp_all; omega))
theorem ZP.fn : Fn 68 ZP.g := by
 refine ⟨⟨_, Tryz.func68, rfl, rfl⟩, fun R l v hg w => ?_⟩
 unfold ZP.g at hg
 split at hg
 ·rename_i x0 x1 x2
  obtain ⟨c0, e0, hg⟩ := Option.bind_eq_some_iff.1 hg
  obtain ⟨c1, e1, hg⟩ := Option.bind_eq_some_iff.1 hg
  obtain ⟨c2, e2, hg⟩ := Option.bind_eq_some_iff.1 hg
  injection hg with hg
  subst hg
  have := (ZP.walk c0 c1 c2).calls ZW w
  simpa only [AV.vs, AV.v, clA, i1_v R e0, i1_v R e1, i1_v R e2] using this
 ·cases hg
def Z9.f (a0 : Int) : Option (Int × Int × Bool) := if a0 < 0 then (some (0, 0, false)) else (if (wrap64 (Int.tdiv a0 1048576)) > 1073741823 then (some (0, 0, false)) else (some (wrap64 (Int.tdiv a0 1048576), Int.tmod a0 1048576, true)))
def Z9.F (a0 : Int) : Int × Int × Bool := (Z9.f a0).getD (0, 0, false)
theorem Z9.f.isS (a0 : Int) : ∃ r, Z9.f a0 = some r := by
 unfold Z9.f
 repeat' (first | exact ⟨_, rfl⟩ | (exfalso; omega) | split)
theorem Z9.tot (a0 : Int) : Z9.f a0 = some (Z9.F a0) := by
 obtain ⟨r, h⟩ := Z9.f.isS a0
 unfold Z9.F
 rw [h]
 rfl
def Z9.g : List AV → Option AV
 | [x0] => (i1 x0).bind fun c0 => some (.tup [.int (Z9.F c0).1, .int (Z9.F c0).2.1, .bool (Z9.F c0).2.2])
 | _ => none
theorem Z9.walk (a0 : Int) : Walk 97 [] 5 900 [.int a0] ((.tup [.int (Z9.F a0).1, .int (Z9.F a0).2.1, .bool (Z9.F a0).2.2] : AV).v R0) := by
 refine w1 fun v O hv hO => ⟨_, _, Tryz.func97, rfl, by kernel_rfl, Nat.le_of_ble_eq_true rfl, ?_⟩
 (try cbv)
 repeat' (apply And.intro <;> (try intro h) <;> (try cbv))
 all_goals (subst hv hO; (try dsimp only [std] at *); (try simp only [nt_] at *)) <;> first | rfl | (simp only [Z9.F, Z9.f, AV.v, AV.vs, nv_, reduceIte, *]; done) | (simp_all (maxSteps := 1000000) [std, Z9.F, Z9.f, AV.v, AV.vs] <;> (repeat' split) <;> first | rfl | omega | (simp_all; done) | (simp_all; omega))
theorem Z9.fn : Fn 97 Z9.g := by
 refine ⟨⟨_, Tryz.func97, rfl, rfl⟩, fun R l v hg w => ?_⟩
 unfold Z9.g at hg
 split at hg
 ·rename_i x0
  obtain ⟨c0, e0, hg⟩ := Option.bind_eq_some_iff.1 hg
  injection hg with hg
  subst hg
  have := (Z9.walk c0).calls ZW w
  simpa only [AV.vs, AV.v, clA, i1_v R e0] using this
 ·cases hg
def Zaa.f (a0 : Int) : Option (Int × Int × Bool) := if a0 < 0 then (some (0, 0, false)) else (if (wrap64 (Int.tdiv a0 1048576)) > 1073741823 then (some (0, 0, false)) else (some (wrap64 (Int.tdiv a0 1048576), Int.tmod a0 1048576, true)))
def Zaa.F (a0 : Int) : Int × Int × Bool := (Zaa.f a0).getD (0, 0, false)
theorem Zaa.f.isS (a0 : Int) : ∃ r, Zaa.f a0 = some r := by
 unfold Zaa.f
 repeat' (first | exact ⟨_, rfl⟩ | (exfalso; omega) | split)
theorem Zaa.tot (a0 : Int) : Zaa.f a0 = some (Zaa.F a0) := by
 obtain ⟨r, h⟩ := Zaa.f.isS a0
 unfold Zaa.F
 rw [h]
 rfl
def Zaa.g : List AV → Option AV
 | [x0] => (i1 x0).bind fun c0 => some (.tup [.int (Zaa.F c0).1, .int (Zaa.F c0).2.1, .bool (Zaa.F c0).2.2])
 | _ => none
theorem Zaa.walk (a0 : Int) : Walk 120 [] 5 900 [.int a0] ((.tup [.int (Zaa.F a0).1, .int (Zaa.F a0).2.1, .bool (Zaa.F a0).2.2] : AV).v R0) := by
 refine w1 fun v O hv hO => ⟨_, _, Tryz.func120, rfl, by kernel_rfl, Nat.le_of_ble_eq_true rfl, ?_⟩
 (try cbv)
 repeat' (apply And.intro <;> (try intro h) <;> (try cbv))
 all_goals (subst hv hO; (try dsimp only [std] at *); (try simp only [nt_] at *)) <;> first | rfl | (simp only [Zaa.F, Zaa.f, AV.v, AV.vs, nv_, reduceIte, *]; done) | (simp_all (maxSteps := 1000000) [std, Zaa.F, Zaa.f, AV.v, AV.vs] <;> (repeat' split) <;> first | rfl | omega | (simp_all; done) | (simp_all; omega))
theorem Zaa.fn : Fn 120 Zaa.g := by
 refine ⟨⟨_, Tryz.func120, rfl, rfl⟩, fun R l v hg w => ?_⟩
 unfold Zaa.g at hg
 split at hg
 ·rename_i x0
  obtain ⟨c0, e0, hg⟩ := Option.bind_eq_some_iff.1 hg
  injection hg with hg
  subst hg
  have := (Zaa.walk c0).calls ZW w
  simpa only [AV.vs, AV.v, clA, i1_v R e0] using this
 ·cases hg
def Zat.f (a0 a1 : Int) : Option (Int × Bool) := (ZP.f a0 0 1073741823).bind fun c5 => (if c5 = true then ((ZP.f a1 0 1048575).bind fun c6 => (if c6 = true then (some (wrap64 ((wrap64 (a0 * 1048576)) + a1), true)) else (some (0, false)))) else (some (0, false)))
def Zat.F (a0 a1 : Int) : Int × Bool := (Zat.f a0 a1).getD (0, false)
theorem Zat.f.isS (a0 a1 : Int) : ∃ r, Zat.f a0 a1 = some r := by
 unfold Zat.f
 (try simp only [ZP.tot, Option.bind_some])
 repeat' (first | exact ⟨_, rfl⟩ | (exfalso; omega) | split)
theorem Zat.tot (a0 a1 : Int) : Zat.f a0 a1 = some (Zat.F a0 a1) := by
 obtain ⟨r, h⟩ := Zat.f.isS a0 a1
 unfold Zat.F
 rw [h]
 rfl
def Zat.g : List AV → Option AV
 | [x0, x1] => (i1 x0).bind fun c0 => (i1 x1).bind fun c1 => some (.tup [.int (Zat.F c0 c1).1, .bool (Zat.F c0 c1).2])
 | _ => none
theorem Zat.walk (a0 a1 : Int) : Walk 93 [(68, ZP.g)] 5 900 [.int a0, .int a1] ((.tup [.int (Zat.F a0 a1).1, .bool (Zat.F a0 a1).2] : AV).v R0) := by
 refine w1 fun v O hv hO => ⟨_, _, Tryz.func93, rfl, by kernel_rfl, Nat.le_of_ble_eq_true rfl, ?_⟩
 unfold ZP.g
 generalize hf0 : ZP.F = f0
 (try cbv)
 repeat' (apply And.intro <;> (try intro h) <;> (try cbv))
 all_goals (subst hv hO; subst hf0; (try dsimp only [std] at *); (try simp only [nt_] at *)) <;> first | rfl | (simp only [Zat.F, Zat.f, AV.v, AV.vs, ZP.tot, nv_, reduceIte, *]; done) | (simp_all (maxSteps := 1000000) [std, Zat.F, Zat.f, AV.v, AV.vs, ZP.tot] <;> (repeat' split) <;> first | rfl | omega | (simp_all; done) | (simp_all; omega))
theorem Zat.fn : Fn 93 Zat.g := by
 refine ⟨⟨_, Tryz.func93, rfl, rfl⟩, fun R l v hg w => ?_⟩
 unfold Zat.g at hg
 split at hg
 ·rename_i x0 x1
  obtain ⟨c0, e0, hg⟩ := Option.bind_eq_some_iff.1 hg
  obtain ⟨c1, e1, hg⟩ := Option.bind_eq_some_iff.1 hg
  injection hg with hg
  subst hg
  have := (Zat.walk c0 c1).calls (all_cons ZP.fn ZW) w
  simpa only [AV.vs, AV.v, clA, i1_v R e0, i1_v R e1] using this
 ·cases hg
def Zas.f (a0 a1 : Int) : Option (Int × Bool) := (impl_within.f a0 0 1073741823).bind fun c7 => (if c7 = true then ((impl_within.f a1 0 1048575).bind fun c8 => (if c8 = true then (some (wrap64 ((wrap64 (a0 * 1048576)) + a1), true)) else (some (0, false)))) else (some (0, false)))
def Zas.F (a0 a1 : Int) : Int × Bool := (Zas.f a0 a1).getD (0, false)
theorem Zas.f.isS (a0 a1 : Int) : ∃ r, Zas.f a0 a1 = some r := by
 unfold Zas.f
 (try simp only [impl_within.tot, Option.bind_some])
 repeat' (first | exact ⟨_, rfl⟩ | (exfalso; omega) | split)
theorem Zas.tot (a0 a1 : Int) : Zas.f a0 a1 = some (Zas.F a0 a1) := by
 obtain ⟨r, h⟩ := Zas.f.isS a0 a1
 unfold Zas.F
 rw [h]
 rfl
def Zas.g : List AV → Option AV
 | [x0, x1] => (i1 x0).bind fun c0 => (i1 x1).bind fun c1 => some (.tup [.int (Zas.F c0 c1).1, .bool (Zas.F c0 c1).2])
 | _ => none
theorem Zas.walk (a0 a1 : Int) : Walk 117 [(82, impl_within.g)] 5 900 [.int a0, .int a1] ((.tup [.int (Zas.F a0 a1).1, .bool (Zas.F a0 a1).2] : AV).v R0) := by
 refine w1 fun v O hv hO => ⟨_, _, Tryz.func117, rfl, by kernel_rfl, Nat.le_of_ble_eq_true rfl, ?_⟩
 unfold impl_within.g
 generalize hf0 : impl_within.F = f0
 (try cbv)
 repeat' (apply And.intro <;> (try intro h) <;> (try cbv))
 all_goals (subst hv hO; subst hf0; (try dsimp only [std] at *); (try simp only [nt_] at *)) <;> first | rfl | (simp only [Zas.F, Zas.f, AV.v, AV.vs, impl_within.tot, nv_, reduceIte, *]; done) | (simp_all (maxSteps := 1000000) [std, Zas.F, Zas.f, AV.v, AV.vs, impl_within.tot] <;> (repeat' split) <;> first | rfl | omega | (simp_all; done) | (simp_all; omega))
theorem Zas.fn : Fn 117 Zas.g := by
 refine ⟨⟨_, Tryz.func117, rfl, rfl⟩, fun R l v hg w => ?_⟩
 unfold Zas.g at hg
 split at hg
 ·rename_i x0 x1
  obtain ⟨c0, e0, hg⟩ := Option.bind_eq_some_iff.1 hg
  obtain ⟨c1, e1, hg⟩ := Option.bind_eq_some_iff.1 hg
  injection hg with hg
  subst hg
  have := (Zas.walk c0 c1).calls (all_cons impl_within.fn ZW) w
  simpa only [AV.vs, AV.v, clA, i1_v R e0, i1_v R e1] using this
 ·cases hg
def Zam.f (a0 : Int) : Option (Int) := (ZP.f a0 0 1073741822).bind fun c9 => (if c9 = true then (some (wrap64 (a0 + 1))) else (some 0))
def Zam.F (a0 : Int) : Int := (Zam.f a0).getD (0)
theorem Zam.f.isS (a0 : Int) : ∃ r, Zam.f a0 = some r := by
 unfold Zam.f
 (try simp only [ZP.tot, Option.bind_some])
 repeat' (first | exact ⟨_, rfl⟩ | (exfalso; omega) | split)
theorem Zam.tot (a0 : Int) : Zam.f a0 = some (Zam.F a0) := by
 obtain ⟨r, h⟩ := Zam.f.isS a0
 unfold Zam.F
 rw [h]
 rfl
def Zam.g : List AV → Option AV
 | [x0] => (i1 x0).bind fun c0 => some (.int (Zam.F c0))
 | _ => none
theorem Zam.walk (a0 : Int) : Walk 94 [(68, ZP.g)] 4 900 [.int a0] ((.int (Zam.F a0) : AV).v R0) := by
 refine w1 fun v O hv hO => ⟨_, _, Tryz.func94, rfl, by kernel_rfl, Nat.le_of_ble_eq_true rfl, ?_⟩
 unfold ZP.g
 generalize hf0 : ZP.F = f0
 (try cbv)
 repeat' (apply And.intro <;> (try intro h) <;> (try cbv))
 all_goals (subst hv hO; subst hf0; (try dsimp only [std] at *); (try simp only [nt_] at *)) <;> first | rfl | (simp only [Zam.F, Zam.f, AV.v, AV.vs, ZP.tot, nv_, reduceIte, *]; done) | (simp_all (maxSteps := 1000000) [std, Zam.F, Zam.f, AV.v, AV.vs, ZP.tot] <;> (repeat' split) <;> first | rfl | omega | (simp_all; done) | (simp_all; omega))
theorem Zam.fn : Fn 94 Zam.g := by
 refine ⟨⟨_, Tryz.func94, rfl, rfl⟩, fun R l v hg w => ?_⟩
 unfold Zam.g at hg
 split at hg
 ·rename_i x0
  obtain ⟨c0, e0, hg⟩ := Option.bind_eq_some_iff.1 hg
  injection hg with hg
  subst hg
  have := (Zam.walk c0).calls (all_cons ZP.fn ZW) w
  simpa only [AV.vs, AV.v, clA, i1_v R e0] using this
 ·cases hg
def Zan.f (a0 : Int) : Option (Int) := (impl_within.f a0 0 1073741822).bind fun e3 => (if e3 = true then (some (wrap64 (a0 + 1))) else (some 0))
def Zan.F (a0 : Int) : Int := (Zan.f a0).getD (0)
theorem Zan.f.isS (a0 : Int) : ∃ r, Zan.f a0 = some r := by
 unfold Zan.f
 (try simp only [impl_within.tot, Option.bind_some])
 repeat' (first | exact ⟨_, rfl⟩ | (exfalso; omega) | split)
theorem Zan.tot (a0 : Int) : Zan.f a0 = some (Zan.F a0) := by
 obtain ⟨r, h⟩ := Zan.f.isS a0
 unfold Zan.F
 rw [h]
 rfl
def Zan.g : List AV → Option AV
 | [x0] => (i1 x0).bind fun c0 => some (.int (Zan.F c0))
 | _ => none
theorem Zan.walk (a0 : Int) : Walk 118 [(82, impl_within.g)] 4 900 [.int a0] ((.int (Zan.F a0) : AV).v R0) := by
 refine w1 fun v O hv hO => ⟨_, _, Tryz.func118, rfl, by kernel_rfl, Nat.le_of_ble_eq_true rfl, ?_⟩
 unfold impl_within.g
 generalize hf0 : impl_within.F = f0
 (try cbv)
 repeat' (apply And.intro <;> (try intro h) <;> (try cbv))
 all_goals (subst hv hO; subst hf0; (try dsimp only [std] at *); (try simp only [nt_] at *)) <;> first | rfl | (simp only [Zan.F, Zan.f, AV.v, AV.vs, impl_within.tot, nv_, reduceIte, *]; done) | (simp_all (maxSteps := 1000000) [std, Zan.F, Zan.f, AV.v, AV.vs, impl_within.tot] <;> (repeat' split) <;> first | rfl | omega | (simp_all; done) | (simp_all; omega))
theorem Zan.fn : Fn 118 Zan.g := by
 refine ⟨⟨_, Tryz.func118, rfl, rfl⟩, fun R l v hg w => ?_⟩
 unfold Zan.g at hg
 split at hg
 ·rename_i x0
  obtain ⟨c0, e0, hg⟩ := Option.bind_eq_some_iff.1 hg
  injection hg with hg
  subst hg
  have := (Zan.walk c0).calls (all_cons impl_within.fn ZW) w
  simpa only [AV.vs, AV.v, clA, i1_v R e0] using this
 ·cases hg
def Zaj.f (a0 a1 : Int) : Option (Int) := if a1 < 1 then (some 0) else (if a1 = 0 then (none) else (if (Int.tmod a0 a1) < 0 then (some (wrap64 ((Int.tmod a0 a1) + a1))) else (some (Int.tmod a0 a1))))
def Zaj.F (a0 a1 : Int) : Int := (Zaj.f a0 a1).getD (0)
theorem Zaj.f.isS (a0 a1 : Int) : ∃ r, Zaj.f a0 a1 = some r := by
 unfold Zaj.f
 repeat' (first | exact ⟨_, rfl⟩ | (exfalso; omega) | split)
theorem Zaj.tot (a0 a1 : Int) : Zaj.f a0 a1 = some (Zaj.F a0 a1) := by
 obtain ⟨r, h⟩ := Zaj.f.isS a0 a1
 unfold Zaj.F
 rw [h]
 rfl
def Zaj.g : List AV → Option AV
 | [x0, x1] => (i1 x0).bind fun c0 => (i1 x1).bind fun c1 => some (.int (Zaj.F c0 c1))
 | _ => none
theorem Zaj.walk (a0 a1 : Int) : Walk 21 [] 5 900 [.int a0, .int a1] ((.int (Zaj.F a0 a1) : AV).v R0) := by
 refine w1 fun v O hv hO => ⟨_, _, Tryz.func21, rfl, by kernel_rfl, Nat.le_of_ble_eq_true rfl, ?_⟩
 (try cbv)
 repeat' (apply And.intro <;> (try intro h) <;> (try cbv))
 all_goals (subst hv hO; (try dsimp only [std] at *); (try simp only [nt_] at *)) <;> first | rfl | (simp only [Zaj.F, Zaj.f, AV.v, AV.vs, nv_, reduceIte, *]; done) | (simp_all (maxSteps := 1000000) [std, Zaj.F, Zaj.f, AV.v, AV.vs] <;> (repeat' split) <;> first | rfl | omega | (simp_all; done) | (simp_all; omega))
theorem Zaj.fn : Fn 21 Zaj.g := by
 refine ⟨⟨_, Tryz.func21, rfl, rfl⟩, fun R l v hg w => ?_⟩
 unfold Zaj.g at hg
 split at hg
 ·rename_i x0 x1
  obtain ⟨c0, e0, hg⟩ := Option.bind_eq_some_iff.1 hg
  obtain ⟨c1, e1, hg⟩ := Option.bind_eq_some_iff.1 hg
  injection hg with hg
  subst hg
  have := (Zaj.walk c0 c1).calls ZW w
  simpa only [AV.vs, AV.v, clA, i1_v R e0, i1_v R e1] using this
 ·cases hg
def Zal.f (a0 a1 : Int) : Option (Int) := if a1 < 1 then (some 0) else (if a1 = 0 then (none) else (if (Int.tmod a0 a1) < 0 then (some (wrap64 ((Int.tmod a0 a1) + a1))) else (some (Int.tmod a0 a1))))
def Zal.F (a0 a1 : Int) : Int := (Zal.f a0 a1).getD (0)
theorem Zal.f.isS (a0 a1 : Int) : ∃ r, Zal.f a0 a1 = some r := by
 unfold Zal.f
 repeat' (first | exact ⟨_, rfl⟩ | (exfalso; omega) | split)
theorem Zal.tot (a0 a1 : Int) : Zal.f a0 a1 = some (Zal.F a0 a1) := by
 obtain ⟨r, h⟩ := Zal.f.isS a0 a1
 unfold Zal.F
 rw [h]
 rfl
def Zal.g : List AV → Option AV
 | [x0, x1] => (i1 x0).bind fun c0 => (i1 x1).bind fun c1 => some (.int (Zal.F c0 c1))
 | _ => none
theorem Zal.walk (a0 a1 : Int) : Walk 51 [] 5 900 [.int a0, .int a1] ((.int (Zal.F a0 a1) : AV).v R0) := by
 refine w1 fun v O hv hO => ⟨_, _, Tryz.func51, rfl, by kernel_rfl, Nat.le_of_ble_eq_true rfl, ?_⟩
 (try cbv)
 repeat' (apply And.intro <;> (try intro h) <;> (try cbv))
 all_goals (subst hv hO; (try dsimp only [std] at *); (try simp only [nt_] at *)) <;> first | rfl | (simp only [Zal.F, Zal.f, AV.v, AV.vs, nv_, reduceIte, *]; done) | (simp_all (maxSteps := 1000000) [std, Zal.F, Zal.f, AV.v, AV.vs] <;> (repeat' split) <;> first | rfl | omega | (simp_all; done) | (simp_all; omega))
theorem Zal.fn : Fn 51 Zal.g := by
 refine ⟨⟨_, Tryz.func51, rfl, rfl⟩, fun R l v hg w => ?_⟩
 unfold Zal.g at hg
 split at hg
 ·rename_i x0 x1
  obtain ⟨c0, e0, hg⟩ := Option.bind_eq_some_iff.1 hg
  obtain ⟨c1, e1, hg⟩ := Option.bind_eq_some_iff.1 hg
  injection hg with hg
  subst hg
  have := (Zal.walk c0 c1).calls ZW w
  simpa only [AV.vs, AV.v, clA, i1_v R e0, i1_v R e1] using this
 ·cases hg
def Zx.f (a0 : Int) : Option (Bool) := if a0 ≥ 1 then (some (decide (a0 ≤ 16))) else (some false)
def Zx.F (a0 : Int) : Bool := (Zx.f a0).getD (false)
theorem Zx.f.isS (a0 : Int) : ∃ r, Zx.f a0 = some r := by
 unfold Zx.f
 repeat' (first | exact ⟨_, rfl⟩ | (exfalso; omega) | split)
theorem Zx.tot (a0 : Int) : Zx.f a0 = some (Zx.F a0) := by
 obtain ⟨r, h⟩ := Zx.f.isS a0
 unfold Zx.F
 rw [h]
 rfl
def Zx.g : List AV → Option AV
 | [x0] => (i1 x0).bind fun c0 => some (.bool (Zx.F c0))
 | _ => none
theorem Zx.walk (a0 : Int) : Walk 38 [] 4 900 [.int a0] ((.bool (Zx.F a0) : AV).v R0) := by
 refine w1 fun v O hv hO => ⟨_, _, Tryz.func38, rfl, by kernel_rfl, Nat.le_of_ble_eq_true rfl, ?_⟩
 (try cbv)
 repeat' (apply And.intro <;> (try intro h) <;> (try cbv))
 all_goals (subst hv hO; (try dsimp only [std] at *); (try simp only [nt_] at *)) <;> first | rfl | (simp only [Zx.F, Zx.f, AV.v, AV.vs, nv_, reduceIte, *]; done) | (simp_all (maxSteps := 1000000) [std, Zx.F, Zx.f, AV.v, AV.vs] <;> (repeat' split) <;> first | rfl | omega | (simp_all; done) | (simp_all; omega))
theorem Zx.fn : Fn 38 Zx.g := by
 refine ⟨⟨_, Tryz.func38, rfl, rfl⟩, fun R l v hg w => ?_⟩
 unfold Zx.g at hg
 split at hg
 ·rename_i x0
  obtain ⟨c0, e0, hg⟩ := Option.bind_eq_some_iff.1 hg
  injection hg with hg
  subst hg
  have := (Zx.walk c0).calls ZW w
  simpa only [AV.vs, AV.v, clA, i1_v R e0] using this
 ·cases hg
def Zah.f (a0 : Int) : Option (Bool) := if a0 ≥ 2 then (some (decide (a0 ≤ 16))) else (some false)
def Zah.F (a0 : Int) : Bool := (Zah.f a0).getD (false)
theorem Zah.f.isS (a0 : Int) : ∃ r, Zah.f a0 = some r := by
 unfold Zah.f
 repeat' (first | exact ⟨_, rfl⟩ | (exfalso; omega) | split)
theorem Zah.tot (a0 : Int) : Zah.f a0 = some (Zah.F a0) := by
 obtain ⟨r, h⟩ := Zah.f.isS a0
 unfold Zah.F
 rw [h]
 rfl
def Zah.g : List AV → Option AV
 | [x0] => (i1 x0).bind fun c0 => some (.bool (Zah.F c0))
 | _ => none
theorem Zah.walk (a0 : Int) : Walk 98 [] 4 900 [.int a0] ((.bool (Zah.F a0) : AV).v R0) := by
 refine w1 fun v O hv hO => ⟨_, _, Tryz.func98, rfl, by kernel_rfl, Nat.le_of_ble_eq_true rfl, ?_⟩
 (try cbv)
 repeat' (apply And.intro <;> (try intro h) <;> (try cbv))
 all_goals (subst hv hO; (try dsimp only [std] at *); (try simp only [nt_] at *)) <;> first | rfl | (simp only [Zah.F, Zah.f, AV.v, AV.vs, nv_, reduceIte, *]; done) | (simp_all (maxSteps := 1000000) [std, Zah.F, Zah.f, AV.v, AV.vs] <;> (repeat' split) <;> first | rfl | omega | (simp_all; done) | (simp_all; omega))
theorem Zah.fn : Fn 98 Zah.g := by
 refine ⟨⟨_, Tryz.func98, rfl, rfl⟩, fun R l v hg w => ?_⟩
 unfold Zah.g at hg
 split at hg
 ·rename_i x0
  obtain ⟨c0, e0, hg⟩ := Option.bind_eq_some_iff.1 hg
  injection hg with hg
  subst hg
  have := (Zah.walk c0).calls ZW w
  simpa only [AV.vs, AV.v, clA, i1_v R e0] using this
 ·cases hg
def Zv.f (a0 : Int) : Option (Int × Int) := (Z9.f a0).bind fun c3 => (some (c3.1, c3.2.1))
def Zv.F (a0 : Int) : Int × Int := (Zv.f a0).getD (0, 0)
theorem Zv.f.isS (a0 : Int) : ∃ r, Zv.f a0 = some r := by
 unfold Zv.f
 (try simp only [Z9.tot, Option.bind_some])
 repeat' (first | exact ⟨_, rfl⟩ | (exfalso; omega) | split)
theorem Zv.tot (a0 : Int) : Zv.f a0 = some (Zv.F a0) := by
 obtain ⟨r, h⟩ := Zv.f.isS a0
 unfold Zv.F
 rw [h]
 rfl
def Zv.g : List AV → Option AV
 | [x0] => (i1 x0).bind fun c0 => some (.tup [.int (Zv.F c0).1, .int (Zv.F c0).2])
 | _ => none
theorem Zv.walk (a0 : Int) : Walk 67 [(97, Z9.g)] 4 900 [.int a0] ((.tup [.int (Zv.F a0).1, .int (Zv.F a0).2] : AV).v R0) := by
 refine w1 fun v O hv hO => ⟨_, _, Tryz.func67, rfl, by kernel_rfl, Nat.le_of_ble_eq_true rfl, ?_⟩
 unfold Z9.g
 generalize hf0 : Z9.F = f0
 (try cbv)
 repeat' (apply And.intro <;> (try intro h) <;> (try cbv))
 all_goals (subst hv hO; subst hf0; (try dsimp only [std] at *); (try simp only [nt_] at *)) <;> first | rfl | (simp only [Zv.F, Zv.f, AV.v, AV.vs, Z9.tot, nv_, reduceIte, *]; done) | (simp_all (maxSteps := 1000000) [std, Zv.F, Zv.f, AV.v, AV.vs, Z9.tot] <;> (repeat' split) <;> first | rfl | omega | (simp_all; done) | (simp_all; omega))
theorem Zv.fn : Fn 67 Zv.g := by
 refine ⟨⟨_, Tryz.func67, rfl, rfl⟩, fun R l v hg w => ?_⟩
 unfold Zv.g at hg
 split at hg
 ·rename_i x0
  obtain ⟨c0, e0, hg⟩ := Option.bind_eq_some_iff.1 hg
  injection hg with hg
  subst hg
  have := (Zv.walk c0).calls (all_cons Z9.fn ZW) w
  simpa only [AV.vs, AV.v, clA, i1_v R e0] using this
 ·cases hg
def Zab.f (a0 : Int) : Option (Int × Int) := (Zaa.f a0).bind fun c4 => (some (wrap64 (c4.2.1 - 1), c4.1))
def Zab.F (a0 : Int) : Int × Int := (Zab.f a0).getD (0, 0)
theorem Zab.f.isS (a0 : Int) : ∃ r, Zab.f a0 = some r := by
 unfold Zab.f
 (try simp only [Zaa.tot, Option.bind_some])
 repeat' (first | exact ⟨_, rfl⟩ | (exfalso; omega) | split)
theorem Zab.tot (a0 : Int) : Zab.f a0 = some (Zab.F a0) := by
 obtain ⟨r, h⟩ := Zab.f.isS a0
 unfold Zab.F
 rw [h]
 rfl
def Zab.g : List AV → Option AV
 | [x0] => (i1 x0).bind fun c0 => some (.tup [.int (Zab.F c0).1, .int (Zab.F c0).2])
 | _ => none
theorem Zab.walk (a0 : Int) : Walk 110 [(120, Zaa.g)] 5 900 [.int a0] ((.tup [.int (Zab.F a0).1, .int (Zab.F a0).2] : AV).v R0) := by
 refine w1 fun v O hv hO => ⟨_, _, Tryz.func110, rfl, by kernel_rfl, Nat.le_of_ble_eq_true rfl, ?_⟩
 unfold Zaa.g
 generalize hf0 : Zaa.F = f0
 (try cbv)
 repeat' (apply And.intro <;> (try intro h) <;> (try cbv))
 all_goals (subst hv hO; subst hf0; (try dsimp only [std] at *); (try simp only [nt_] at *)) <;> first | rfl | (simp only [Zab.F, Zab.f, AV.v, AV.vs, Zaa.tot, nv_, reduceIte, *]; done) | (simp_all (maxSteps := 1000000) [std, Zab.F, Zab.f, AV.v, AV.vs, Zaa.tot] <;> (repeat' split) <;> first | rfl | omega | (simp_all; done) | (simp_all; omega))
theorem Zab.fn : Fn 110 Zab.g := by
 refine ⟨⟨_, Tryz.func110, rfl, rfl⟩, fun R l v hg w => ?_⟩
 unfold Zab.g at hg
 split at hg
 ·rename_i x0
  obtain ⟨c0, e0, hg⟩ := Option.bind_eq_some_iff.1 hg
  injection hg with hg
  subst hg
  have := (Zab.walk c0).calls (all_cons Zaa.fn ZW) w
  simpa only [AV.vs, AV.v, clA, i1_v R e0] using this
 ·cases hg
def ZQ.f (b0 b1 b2 b3 b4 b5 b6 b7 b8 : Int) (b9 : Bool) : Option (Int) := if b0 = 1 then (some b1) else ((Zv.f b6).bind fun e4 => (some (wrap64 (e4.2 - 1))))
def ZQ.F (b0 b1 b2 b3 b4 b5 b6 b7 b8 : Int) (b9 : Bool) : Int := (ZQ.f b0 b1 b2 b3 b4 b5 b6 b7 b8 b9).getD (0)
theorem ZQ.f.isS (b0 b1 b2 b3 b4 b5 b6 b7 b8 : Int) (b9 : Bool) : ∃ r, ZQ.f b0 b1 b2 b3 b4 b5 b6 b7 b8 b9 = some r := by
 unfold ZQ.f
 (try simp only [Zv.tot, Option.bind_some])
 repeat' (first | exact ⟨_, rfl⟩ | (exfalso; omega) | split)
theorem ZQ.tot (b0 b1 b2 b3 b4 b5 b6 b7 b8 : Int) (b9 : Bool) : ZQ.f b0 b1 b2 b3 b4 b5 b6 b7 b8 b9 = some (ZQ.F b0 b1 b2 b3 b4 b5 b6 b7 b8 b9) := by
 obtain ⟨r, h⟩ := ZQ.f.isS b0 b1 b2 b3 b4 b5 b6 b7 b8 b9
 unfold ZQ.F
 rw [h]
 rfl
def ZQ.g : List AV → Option AV
 | [x0] => (dC x0).bind fun c0 => some (.int (ZQ.F c0.f0 c0.f1 c0.f2 c0.f3 c0.f4 c0.f5 c0.f6 c0.f7 c0.f8 c0.f9))
 | _ => none
theorem ZQ.walk (b0 b1 b2 b3 b4 b5 b6 b7 b8 : Int) (b9 : Bool) : Walk 69 [(67, Zv.g)] 5 900 [.agg [.int b0, .int b1, .int b2, .int b3, .int b4, .int b5, .int b6, .int b7, .int b8, .bool b9]] ((.int (ZQ.F b0 b1 b2 b3 b4 b5 b6 b7 b8 b9) : AV).v R0) := by
 refine w1 fun v O hv hO => ⟨_, _, Tryz.func69, rfl, by kernel_rfl, Nat.le_of_ble_eq_true rfl, ?_⟩
 unfold Zv.g
 generalize hf0 : Zv.F = f0
 (try cbv)
 repeat' (apply And.intro <;> (try intro h) <;> (try cbv))
 all_goals (subst hv hO; subst hf0; (try dsimp only [std] at *); (try simp only [nt_] at *)) <;> first | rfl | (simp only [ZQ.F, ZQ.f, AV.v, AV.vs, Zv.tot, nv_, reduceIte, *]; done) | (simp_all (maxSteps := 1000000) [std, ZQ.F, ZQ.f, AV.v, AV.vs, Zv.tot] <;> (repeat' split) <;> first | rfl | omega | (simp_all; done) | (simp_all; omega))
theorem ZQ.fn : Fn 69 ZQ.g := by
 refine ⟨⟨_, Tryz.func69, rfl, rfl⟩, fun R l v hg w => ?_⟩
 unfold ZQ.g at hg
 split at hg
 ·rename_i x0
  obtain ⟨c0, e0, hg⟩ := Option.bind_eq_some_iff.1 hg
  injection hg with hg
  subst hg
  have := (ZQ.walk c0.f0 c0.f1 c0.f2 c0.f3 c0.f4 c0.f5 c0.f6 c0.f7 c0.f8 c0.f9).calls (all_cons Zv.fn ZW) w
  simpa only [AV.vs, AV.v, clA, dC_v R e0] using this
 ·cases hg
def Zw.f (a0 : Int) : Option (TA) := some (1, a0, 0, 0, true)
def Zw.F (a0 : Int) : TA := (Zw.f a0).getD (0, 0, 0, 0, false)
theorem Zw.f.isS (a0 : Int) : ∃ r, Zw.f a0 = some r := by
 unfold Zw.f
 repeat' (first | exact ⟨_, rfl⟩ | (exfalso; omega) | split)
theorem Zw.tot (a0 : Int) : Zw.f a0 = some (Zw.F a0) := by
 obtain ⟨r, h⟩ := Zw.f.isS a0
 unfold Zw.F
 rw [h]
 rfl
def Zw.g : List AV → Option AV
 | [x0] => (i1 x0).bind fun c0 => some (.tup [.agg [.int (Zw.F c0).1, .int (Zw.F c0).2.1, .int (Zw.F c0).2.2.1, .int (Zw.F c0).2.2.2.1], .bool (Zw.F c0).2.2.2.2])
 | _ => none
theorem Zw.walk (a0 : Int) : Walk 91 [] 3 900 [.int a0] ((.tup [.agg [.int (Zw.F a0).1, .int (Zw.F a0).2.1, .int (Zw.F a0).2.2.1, .int (Zw.F a0).2.2.2.1], .bool (Zw.F a0).2.2.2.2] : AV).v R0) := by
 refine w1 fun v O hv hO => ⟨_, _, Tryz.func91, rfl, by kernel_rfl, Nat.le_of_ble_eq_true rfl, ?_⟩
 (try cbv)
 repeat' (apply And.intro <;> (try intro h) <;> (try cbv))
 all_goals (subst hv hO; (try dsimp only [std] at *); (try simp only [nt_] at *)) <;> first | rfl | (simp only [Zw.F, Zw.f, AV.v, AV.vs, nv_, reduceIte, *]; done) | (simp_all (maxSteps := 1000000) [std, Zw.F, Zw.f, AV.v, AV.vs] <;> (repeat' split) <;> first | rfl | omega | (simp_all; done) | (simp_all; omega))
theorem Zw.fn : Fn 91 Zw.g := by
 refine ⟨⟨_, Tryz.func91, rfl, rfl⟩, fun R l v hg w => ?_⟩
 unfold Zw.g at hg
 split at hg
 ·rename_i x0
  obtain ⟨c0, e0, hg⟩ := Option.bind_eq_some_iff.1 hg
  injection hg with hg
  subst hg
  have := (Zw.walk c0).calls ZW w
  simpa only [AV.vs, AV.v, clA, i1_v R e0] using this
 ·cases hg
def Zu.f (a0 a1 : Int) : Option (TA) := some (2, a0, a1, 0, true)
def Zu.F (a0 a1 : Int) : TA := (Zu.f a0 a1).getD (0, 0, 0, 0, false)
theorem Zu.f.isS (a0 a1 : Int) : ∃ r, Zu.f a0 a1 = some r := by
 unfold Zu.f
 repeat' (first | exact ⟨_, rfl⟩ | (exfalso; omega) | split)
theorem Zu.tot (a0 a1 : Int) : Zu.f a0 a1 = some (Zu.F a0 a1) := by
 obtain ⟨r, h⟩ := Zu.f.isS a0 a1
 unfold Zu.F
 rw [h]
 rfl
def Zu.g : List AV → Option AV
 | [x0, x1] => (i1 x0).bind fun c0 => (i1 x1).bind fun c1 => some (.tup [.agg [.int (Zu.F c0 c1).1, .int (Zu.F c0 c1).2.1, .int (Zu.F c0 c1).2.2.1, .int (Zu.F c0 c1).2.2.2.1], .bool (Zu.F c0 c1).2.2.2.2])
 | _ => none
theorem Zu.walk (a0 a1 : Int) : Walk 92 [] 4 900 [.int a0, .int a1] ((.tup [.agg [.int (Zu.F a0 a1).1, .int (Zu.F a0 a1).2.1, .int (Zu.F a0 a1).2.2.1, .int (Zu.F a0 a1).2.2.2.1], .bool (Zu.F a0 a1).2.2.2.2] : AV).v R0) := by
 refine w1 fun v O hv hO => ⟨_, _, Tryz.func92, rfl, by kernel_rfl, Nat.le_of_ble_eq_true rfl, ?_⟩
 (try cbv)
 repeat' (apply And.intro <;> (try intro h) <;> (try cbv))
 all_goals (subst hv hO; (try dsimp only [std] at *); (try simp only [nt_] at *)) <;> first | rfl | (simp only [Zu.F, Zu.f, AV.v, AV.vs, nv_, reduceIte, *]; done) | (simp_all (maxSteps := 1000000) [std, Zu.F, Zu.f, AV.v, AV.vs] <;> (repeat' split) <;> first | rfl | omega | (simp_all; done) | (simp_all; omega))
theorem Zu.fn : Fn 92 Zu.g := by
 refine ⟨⟨_, Tryz.func92, rfl, rfl⟩, fun R l v hg w => ?_⟩
 unfold Zu.g at hg
 split at hg
 ·rename_i x0 x1
  obtain ⟨c0, e0, hg⟩ := Option.bind_eq_some_iff.1 hg
  obtain ⟨c1, e1, hg⟩ := Option.bind_eq_some_iff.1 hg
  injection hg with hg
  subst hg
  have := (Zu.walk c0 c1).calls ZW w
  simpa only [AV.vs, AV.v, clA, i1_v R e0, i1_v R e1] using this
 ·cases hg
def ZT.f (a0 a1 a2 : Int) : Option (TA) := some (3, a0, a1, a2, true)
def ZT.F (a0 a1 a2 : Int) : TA := (ZT.f a0 a1 a2).getD (0, 0, 0, 0, false)
theorem ZT.f.isS (a0 a1 a2 : Int) : ∃ r, ZT.f a0 a1 a2 = some r := by
 unfold ZT.f
 repeat' (first | exact ⟨_, rfl⟩ | (exfalso; omega) | split)
theorem ZT.tot (a0 a1 a2 : Int) : ZT.f a0 a1 a2 = some (ZT.F a0 a1 a2) := by
 obtain ⟨r, h⟩ := ZT.f.isS a0 a1 a2
 unfold ZT.F
 rw [h]
 rfl
def ZT.g : List AV → Option AV
 | [x0, x1, x2] => (i1 x0).bind fun c0 => (i1 x1).bind fun c1 => (i1 x2).bind fun c2 => some (.tup [.agg [.int (ZT.F c0 c1 c2).1, .int (ZT.F c0 c1 c2).2.1, .int (ZT.F c0 c1 c2).2.2.1, .int (ZT.F c0 c1 c2).2.2.2.1], .bool (ZT.F c0 c1 c2).2.2.2.2])
 | _ => none
theorem ZT.walk (a0 a1 a2 : Int) : Walk 95 [] 4 900 [.int a0, .int a1, .int a2] ((.tup [.agg [.int (ZT.F a0 a1 a2).1, .int (ZT.F a0 a1 a2).2.1, .int (ZT.F a0 a1 a2).2.2.1, .int (ZT.F a0 a1 a2).2.2.2.1], .bool (ZT.F a0 a1 a2).2.2.2.2] : AV).v R0) := by
 refine w1 fun v O hv hO => ⟨_, _, Tryz.func95, rfl, by kernel_rfl, Nat.le_of_ble_eq_true rfl, ?_⟩
 (try cbv)
 repeat' (apply And.intro <;> (try intro h) <;> (try cbv))
 all_goals (subst hv hO; (try dsimp only [std] at *); (try simp only [nt_] at *)) <;> first | rfl | (simp only [ZT.F, ZT.f, AV.v, AV.vs, nv_, reduceIte, *]; done) | (simp_all (maxSteps := 1000000) [std, ZT.F, ZT.f, AV.v, AV.vs] <;> (repeat' split) <;> first | rfl | omega | (simp_all; done) | (simp_all; omega))
theorem ZT.fn : Fn 95 ZT.g := by
 refine ⟨⟨_, Tryz.func95, rfl, rfl⟩, fun R l v hg w => ?_⟩
 unfold ZT.g at hg
 split at hg
 ·rename_i x0 x1 x2
  obtain ⟨c0, e0, hg⟩ := Option.bind_eq_some_iff.1 hg
  obtain ⟨c1, e1, hg⟩ := Option.bind_eq_some_iff.1 hg
  obtain ⟨c2, e2, hg⟩ := Option.bind_eq_some_iff.1 hg
  injection hg with hg
  subst hg
  have := (ZT.walk c0 c1 c2).calls ZW w
  simpa only [AV.vs, AV.v, clA, i1_v R e0, i1_v R e1, i1_v R e2] using this
 ·cases hg
def Zac.f (a0 : Int) : Option (Int) := (Z9.f a0).bind fun e5 => (if e5.2.2 = true then (some a0) else (some 0))
def Zac.F (a0 : Int) : Int := (Zac.f a0).getD (0)
theorem Zac.f.isS (a0 : Int) : ∃ r, Zac.f a0 = some r := by
 unfold Zac.f
 (try simp only [Z9.tot, Option.bind_some])
 repeat' (first | exact ⟨_, rfl⟩ | (exfalso; omega) | split)
theorem Zac.tot (a0 : Int) : Zac.f a0 = some (Zac.F a0) := by
 obtain ⟨r, h⟩ := Zac.f.isS a0
 unfold Zac.F
 rw [h]
 rfl
def Zac.g : List AV → Option AV
 | [x0] => (i1 x0).bind fun c0 => some (.int (Zac.F c0))
 | _ => none
theorem Zac.walk (a0 : Int) : Walk 66 [(97, Z9.g)] 4 900 [.int a0] ((.int (Zac.F a0) : AV).v R0) := by
 refine w1 fun v O hv hO => ⟨_, _, Tryz.func66, rfl, by kernel_rfl, Nat.le_of_ble_eq_true rfl, ?_⟩
 unfold Z9.g
 generalize hf0 : Z9.F = f0
 (try cbv)
 repeat' (apply And.intro <;> (try intro h) <;> (try cbv))
 all_goals (subst hv hO; subst hf0; (try dsimp only [std] at *); (try simp only [nt_] at *)) <;> first | rfl | (simp only [Zac.F, Zac.f, AV.v, AV.vs, Z9.tot, nv_, reduceIte, *]; done) | (simp_all (maxSteps := 1000000) [std, Zac.F, Zac.f, AV.v, AV.vs, Z9.tot] <;> (repeat' split) <;> first | rfl | omega | (simp_all; done) | (simp_all; omega))
theorem Zac.fn : Fn 66 Zac.g := by
 refine ⟨⟨_, Tryz.func66, rfl, rfl⟩, fun R l v hg w => ?_⟩
 unfold Zac.g at hg
 split at hg
 ·rename_i x0
  obtain ⟨c0, e0, hg⟩ := Option.bind_eq_some_iff.1 hg
  injection hg with hg
  subst hg
  have := (Zac.walk c0).calls (all_cons Z9.fn ZW) w
  simpa only [AV.vs, AV.v, clA, i1_v R e0] using this
 ·cases hg
def Zaq.f (a0 : Int) : Option (Int) := (Zaa.f a0).bind fun e6 => (if e6.2.2 = true then (some a0) else (some 0))
def Zaq.F (a0 : Int) : Int := (Zaq.f a0).getD (0)
theorem Zaq.f.isS (a0 : Int) : ∃ r, Zaq.f a0 = some r := by
 unfold Zaq.f
 (try simp only [Zaa.tot, Option.bind_some])
 repeat' (first | exact ⟨_, rfl⟩ | (exfalso; omega) | split)
theorem Zaq.tot (a0 : Int) : Zaq.f a0 = some (Zaq.F a0) := by
 obtain ⟨r, h⟩ := Zaq.f.isS a0
 unfold Zaq.F
 rw [h]
 rfl
def Zaq.g : List AV → Option AV
 | [x0] => (i1 x0).bind fun c0 => some (.int (Zaq.F c0))
 | _ => none
theorem Zaq.walk (a0 : Int) : Walk 109 [(120, Zaa.g)] 4 900 [.int a0] ((.int (Zaq.F a0) : AV).v R0) := by
 refine w1 fun v O hv hO => ⟨_, _, Tryz.func109, rfl, by kernel_rfl, Nat.le_of_ble_eq_true rfl, ?_⟩
 unfold Zaa.g
 generalize hf0 : Zaa.F = f0
 (try cbv)
 repeat' (apply And.intro <;> (try intro h) <;> (try cbv))
 all_goals (subst hv hO; subst hf0; (try dsimp only [std] at *); (try simp only [nt_] at *)) <;> first | rfl | (simp only [Zaq.F, Zaq.f, AV.v, AV.vs, Zaa.tot, nv_, reduceIte, *]; done) | (simp_all (maxSteps := 1000000) [std, Zaq.F, Zaq.f, AV.v, AV.vs, Zaa.tot] <;> (repeat' split) <;> first | rfl | omega | (simp_all; done) | (simp_all; omega))
theorem Zaq.fn : Fn 109 Zaq.g := by
 refine ⟨⟨_, Tryz.func109, rfl, rfl⟩, fun R l v hg w => ?_⟩
 unfold Zaq.g at hg
 split at hg
 ·rename_i x0
  obtain ⟨c0, e0, hg⟩ := Option.bind_eq_some_iff.1 hg
  injection hg with hg
  subst hg
  have := (Zaq.walk c0).calls (all_cons Zaa.fn ZW) w
  simpa only [AV.vs, AV.v, clA, i1_v R e0] using this
 ·cases hg
def Zm.f (b0 b1 b2 b3 b4 b5 b6 b7 b8 : Int) (b9 : Bool) (a1 : Int) : Option (TC) := some (b0, b1, b2, b3, b4, b5, b6, a1, b8, true)
def Zm.F (b0 b1 b2 b3 b4 b5 b6 b7 b8 : Int) (b9 : Bool) (a1 : Int) : TC := (Zm.f b0 b1 b2 b3 b4 b5 b6 b7 b8 b9 a1).getD (0, 0, 0, 0, 0, 0, 0, 0, 0, false)
theorem Zm.f.isS (b0 b1 b2 b3 b4 b5 b6 b7 b8 : Int) (b9 : Bool) (a1 : Int) : ∃ r, Zm.f b0 b1 b2 b3 b4 b5 b6 b7 b8 b9 a1 = some r := by
 unfold Zm.f
 repeat' (first | exact ⟨_, rfl⟩ | (exfalso; omega) | split)
theorem Zm.tot (b0 b1 b2 b3 b4 b5 b6 b7 b8 : Int) (b9 : Bool) (a1 : Int) : Zm.f b0 b1 b2 b3 b4 b5 b6 b7 b8 b9 a1 = some (Zm.F b0 b1 b2 b3 b4 b5 b6 b7 b8 b9 a1) := by
 obtain ⟨r, h⟩ := Zm.f.isS b0 b1 b2 b3 b4 b5 b6 b7 b8 b9 a1
 unfold Zm.F
 rw [h]
 rfl
def Zm.g : List AV → Option AV
 | [x0, x1] => (dC x0).bind fun c0 => (i1 x1).bind fun c1 => some (.agg [.int (Zm.F c0.f0 c0.f1 c0.f2 c0.f3 c0.f4 c0.f5 c0.f6 c0.f7 c0.f8 c0.f9 c1).1, .int (Zm.F c0.f0 c0.f1 c0.f2 c0.f3 c0.f4 c0.f5 c0.f6 c0.f7 c0.f8 c0.f9 c1).2.1, .int (Zm.F c0.f0 c0.f1 c0.f2 c0.f3 c0.f4 c0.f5 c0.f6 c0.f7 c0.f8 c0.f9 c1).2.2.1, .int (Zm.F c0.f0 c0.f1 c0.f2 c0.f3 c0.f4 c0.f5 c0.f6 c0.f7 c0.f8 c0.f9 c1).2.2.2.1, .int (Zm.F c0.f0 c0.f1 c0.f2 c0.f3 c0.f4 c0.f5 c0.f6 c0.f7 c0.f8 c0.f9 c1).2.2.2.2.1, .int (Zm.F c0.f0 c0.f1 c0.f2 c0.f3 c0.f4 c0.f5 c0.f6 c0.f7 c0.f8 c0.f9 c1).2.2.2.2.2.1, .int (Zm.F c0.f0 c0.f1 c0.f2 c0.f3 c0.f4 c0.f5 c0.f6 c0.f7 c0.f8 c0.f9 c1).2.2.2.2.2.2.1, .int (Zm.F c0.f0 c0.f1 c0.f2 c0.f3 c0.f4 c0.f5 c0.f6 c0.f7 c0.f8 c0.f9 c1).2.2.2.2.2.2.2.1, .int (Zm.F c0.f0 c0.f1 c0.f2 c0.f3 c0.f4 c0.f5 c0.f6 c0.f7 c0.f8 c0.f9 c1).2.2.2.2.2.2.2.2.1, .bool (Zm.F c0.f0 c0.f1 c0.f2 c0.f3 c0.f4 c0.f5 c0.f6 c0.f7 c0.f8 c0.f9 c1).2.2.2.2.2.2.2.2.2])
 | _ => none
theorem Zm.walk (b0 b1 b2 b3 b4 b5 b6 b7 b8 : Int) (b9 : Bool) (a1 : Int) : Walk 43 [] 4 900 [.agg [.int b0, .int b1, .int b2, .int b3, .int b4, .int b5, .int b6, .int b7, .int b8, .bool b9], .int a1] ((.agg [.int (Zm.F b0 b1 b2 b3 b4 b5 b6 b7 b8 b9 a1).1, .int (Zm.F b0 b1 b2 b3 b4 b5 b6 b7 b8 b9 a1).2.1, .int (Zm.F b0 b1 b2 b3 b4 b5 b6 b7 b8 b9 a1).2.2.1, .int (Zm.F b0 b1 b2 b3 b4 b5 b6 b7 b8 b9 a1).2.2.2.1, .int (Zm.F b0 b1 b2 b3 b4 b5 b6 b7 b8 b9 a1).2.2.2.2.1, .int (Zm.F b0 b1 b2 b3 b4 b5 b6 b7 b8 b9 a1).2.2.2.2.2.1, .int (Zm.F b0 b1 b2 b3 b4 b5 b6 b7 b8 b9 a1).2.2.2.2.2.2.1, .int (Zm.F b0 b1 b2 b3 b4 b5 b6 b7 b8 b9 a1).2.2.2.2.2.2.2.1, .int (Zm.F b0 b1 b2 b3 b4 b5 b6 b7 b8 b9 a1).2.2.2.2.2.2.2.2.1, .bool (Zm.F b0 b1 b2 b3 b4 b5 b6 b7 b8 b9 a1).2.2.2.2.2.2.2.2.2] : AV).v R0) := by
 refine w1 fun v O hv hO => ⟨_, _, Tryz.func43, rfl, by kernel_rfl, Nat.le_of_ble_eq_true rfl, ?_⟩
 (try cbv)
 repeat' (apply And.intro <;> (try intro h) <;> (try cbv))
 all_goals (subst hv hO; (try dsimp only [std] at *); (try simp only [nt_] at *)) <;> first | rfl | (simp only [Zm.F, Zm.f, AV.v, AV.vs, nv_, reduceIte, *]; done) | (simp_all (maxSteps := 1000000) [std, Zm.F, Zm.f, AV.v, AV.vs] <;> (repeat' split) <;> first | rfl | omega | (simp_all; done) | (simp_all; omega))
theorem Zm.fn : Fn 43 Zm.g := by
 refine ⟨⟨_, Tryz.func43, rfl, rfl⟩, fun R l v hg w => ?_⟩
 unfold Zm.g at hg
 split at hg
 ·rename_i x0 x1
  obtain ⟨c0, e0, hg⟩ := Option.bind_eq_some_iff.1 hg
  obtain ⟨c1, e1, hg⟩ := Option.bind_eq_some_iff.1 hg
  injection hg with hg
  subst hg
  have := (Zm.walk c0.f0 c0.f1 c0.f2 c0.f3 c0.f4 c0.f5 c0.f6 c0.f7 c0.f8 c0.f9 c1).calls ZW w
  simpa only [AV.vs, AV.v, clA, dC_v R e0, i1_v R e1] using this
 ·cases hg
def Zao.f (a0 a1 : Int) : Option (Int) := (Zaj.f a1 a0).bind fun e7 => (some (wrap64 (2 + (wrap64 (2 * e7)))))
def Zao.F (a0 a1 : Int) : Int := (Zao.f a0 a1).getD (0)
theorem Zao.f.isS (a0 a1 : Int) : ∃ r, Zao.f a0 a1 = some r := by
 unfold Zao.f
 (try simp only [Zaj.tot, Option.bind_some])
 repeat' (first | exact ⟨_, rfl⟩ | (exfalso; omega) | split)
theorem Zao.tot (a0 a1 : Int) : Zao.f a0 a1 = some (Zao.F a0 a1) := by
 obtain ⟨r, h⟩ := Zao.f.isS a0 a1
 unfold Zao.F
 rw [h]
 rfl
def Zao.g : List AV → Option AV
 | [x0, x1] => (i1 x0).bind fun c0 => (i1 x1).bind fun c1 => some (.int (Zao.F c0 c1))
 | _ => none
theorem Zao.walk (a0 a1 : Int) : Walk 99 [(21, Zaj.g)] 4 900 [.int a0, .int a1] ((.int (Zao.F a0 a1) : AV).v R0) := by
 refine w1 fun v O hv hO => ⟨_, _, Tryz.func99, rfl, by kernel_rfl, Nat.le_of_ble_eq_true rfl, ?_⟩
 unfold Zaj.g
 generalize hf0 : Zaj.F = f0
 (try cbv)
 repeat' (apply And.intro <;> (try intro h) <;> (try cbv))
 all_goals (subst hv hO; subst hf0; (try dsimp only [std] at *); (try simp only [nt_] at *)) <;> first | rfl | (simp only [Zao.F, Zao.f, AV.v, AV.vs, Zaj.tot, nv_, reduceIte, *]; done) | (simp_all (maxSteps := 1000000) [std, Zao.F, Zao.f, AV.v, AV.vs, Zaj.tot] <;> (repeat' split) <;> first | rfl | omega | (simp_all; done) | (simp_all; omega))
theorem Zao.fn : Fn 99 Zao.g := by
 refine ⟨⟨_, Tryz.func99, rfl, rfl⟩, fun R l v hg w => ?_⟩
 unfold Zao.g at hg
 split at hg
 ·rename_i x0 x1
  obtain ⟨c0, e0, hg⟩ := Option.bind_eq_some_iff.1 hg
  obtain ⟨c1, e1, hg⟩ := Option.bind_eq_some_iff.1 hg
  injection hg with hg
  subst hg
  have := (Zao.walk c0 c1).calls (all_cons Zaj.fn ZW) w
  simpa only [AV.vs, AV.v, clA, i1_v R e0, i1_v R e1] using this
 ·cases hg
def ZV.f (a0 a1 : Int) : Option (Bool) := if a1 ≥ 0 then (some (decide ((wrap64 (Int.tdiv a1 2)) ≤ a0))) else (some false)
def ZV.F (a0 a1 : Int) : Bool := (ZV.f a0 a1).getD (false)
theorem ZV.f.isS (a0 a1 : Int) : ∃ r, ZV.f a0 a1 = some r := by
 unfold ZV.f
 repeat' (first | exact ⟨_, rfl⟩ | (exfalso; omega) | split)
theorem ZV.tot (a0 a1 : Int) : ZV.f a0 a1 = some (ZV.F a0 a1) := by
 obtain ⟨r, h⟩ := ZV.f.isS a0 a1
 unfold ZV.F
 rw [h]
 rfl
def ZV.g : List AV → Option AV
 | [x0, x1] => (i1 x0).bind fun c0 => (i1 x1).bind fun c1 => some (.bool (ZV.F c0 c1))
 | _ => none
theorem ZV.walk (a0 a1 : Int) : Walk 73 [] 4 900 [.int a0, .int a1] ((.bool (ZV.F a0 a1) : AV).v R0) := by
 refine w1 fun v O hv hO => ⟨_, _, Tryz.func73, rfl, by kernel_rfl, Nat.le_of_ble_eq_true rfl, ?_⟩
 (try cbv)
 repeat' (apply And.intro <;> (try intro h) <;> (try cbv))
 all_goals (subst hv hO; (try dsimp only [std] at *); (try simp only [nt_] at *)) <;> first | rfl | (simp only [ZV.F, ZV.f, AV.v, AV.vs, nv_, reduceIte, *]; done) | (simp_all (maxSteps := 1000000) [std, ZV.F, ZV.f, AV.v, AV.vs] <;> (repeat' split) <;> first | rfl | omega | (simp_all; done) | (simp_all; omega))
theorem ZV.fn : Fn 73 ZV.g := by
 refine ⟨⟨_, Tryz.func73, rfl, rfl⟩, fun R l v hg w => ?_⟩
 unfold ZV.g at hg
 split at hg
 ·rename_i x0 x1
  obtain ⟨c0, e0, hg⟩ := Option.bind_eq_some_iff.1 hg
  obtain ⟨c1, e1, hg⟩ := Option.bind_eq_some_iff.1 hg
  injection hg with hg
  subst hg
  have := (ZV.walk c0 c1).calls ZW w
  simpa only [AV.vs, AV.v, clA, i1_v R e0, i1_v R e1] using this
 ·cases hg
def ZX.f (a0 a1 : Int) : Option (Bool) := (ZV.f a0 a1).bind fun e8 => (if e8 = true then (some (decide ((wrap64 (Int.tdiv a1 2)) ≥ 1))) else (some false))
def ZX.F (a0 a1 : Int) : Bool := (ZX.f a0 a1).getD (false)
theorem ZX.f.isS (a0 a1 : Int) : ∃ r, ZX.f a0 a1 = some r := by
 unfold ZX.f
 (try simp only [ZV.tot, Option.bind_some])
 repeat' (first | exact ⟨_, rfl⟩ | (exfalso; omega) | split)
theorem ZX.tot (a0 a1 : Int) : ZX.f a0 a1 = some (ZX.F a0 a1) := by
 obtain ⟨r, h⟩ := ZX.f.isS a0 a1
 unfold ZX.F
 rw [h]
 rfl
def ZX.g : List AV → Option AV
 | [x0, x1] => (i1 x0).bind fun c0 => (i1 x1).bind fun c1 => some (.bool (ZX.F c0 c1))
 | _ => none
theorem ZX.walk (a0 a1 : Int) : Walk 102 [(73, ZV.g)] 4 900 [.int a0, .int a1] ((.bool (ZX.F a0 a1) : AV).v R0) := by
 refine w1 fun v O hv hO => ⟨_, _, Tryz.func102, rfl, by kernel_rfl, Nat.le_of_ble_eq_true rfl, ?_⟩
 unfold ZV.g
 generalize hf0 : ZV.F = f0
 (try cbv)
 repeat' (apply And.intro <;> (try intro h) <;> (try cbv))
 all_goals (subst hv hO; subst hf0; (try dsimp only [std] at *); (try simp only [nt_] at *)) <;> first | rfl | (simp only [ZX.F, ZX.f, AV.v, AV.vs, ZV.tot, nv_, reduceIte, *]; done) | (simp_all (maxSteps := 1000000) [std, ZX.F, ZX.f, AV.v, AV.vs, ZV.tot] <;> (repeat' split) <;> first | rfl | omega | (simp_all; done) | (simp_all; omega))
theorem ZX.fn : Fn 102 ZX.g := by
 refine ⟨⟨_, Tryz.func102, rfl, rfl⟩, fun R l v hg w => ?_⟩
 unfold ZX.g at hg
 split at hg
 ·rename_i x0 x1
  obtain ⟨c0, e0, hg⟩ := Option.bind_eq_some_iff.1 hg
  obtain ⟨c1, e1, hg⟩ := Option.bind_eq_some_iff.1 hg
  injection hg with hg
  subst hg
  have := (ZX.walk c0 c1).calls (all_cons ZV.fn ZW) w
  simpa only [AV.vs, AV.v, clA, i1_v R e0, i1_v R e1] using this
 ·cases hg
def Z8.f (a0 : Int) : Option (Int) := some (wrap64 ((wrap64 (Int.tdiv a0 2)) - 1))
def Z8.F (a0 : Int) : Int := (Z8.f a0).getD (0)
theorem Z8.f.isS (a0 : Int) : ∃ r, Z8.f a0 = some r := by
 unfold Z8.f
 repeat' (first | exact ⟨_, rfl⟩ | (exfalso; omega) | split)
theorem Z8.tot (a0 : Int) : Z8.f a0 = some (Z8.F a0) := by
 obtain ⟨r, h⟩ := Z8.f.isS a0
 unfold Z8.F
 rw [h]
 rfl
def Z8.g : List AV → Option AV
 | [x0] => (i1 x0).bind fun c0 => some (.int (Z8.F c0))
 | _ => none
theorem Z8.walk (a0 : Int) : Walk 101 [] 3 900 [.int a0] ((.int (Z8.F a0) : AV).v R0) := by
 refine w1 fun v O hv hO => ⟨_, _, Tryz.func101, rfl, by kernel_rfl, Nat.le_of_ble_eq_true rfl, ?_⟩
 (try cbv)
 repeat' (apply And.intro <;> (try intro h) <;> (try cbv))
 all_goals (subst hv hO; (try dsimp only [std] at *); (try simp only [nt_] at *)) <;> first | rfl | (simp only [Z8.F, Z8.f, AV.v, AV.vs, nv_, reduceIte, *]; done) | (simp_all (maxSteps := 1000000) [std, Z8.F, Z8.f, AV.v, AV.vs] <;> (repeat' split) <;> first | rfl | omega | (simp_all; done) | (simp_all; omega))
theorem Z8.fn : Fn 101 Z8.g := by
 refine ⟨⟨_, Tryz.func101, rfl, rfl⟩, fun R l v hg w => ?_⟩
 unfold Z8.g at hg
 split at hg
 ·rename_i x0
  obtain ⟨c0, e0, hg⟩ := Option.bind_eq_some_iff.1 hg
  injection hg with hg
  subst hg
  have := (Z8.walk c0).calls ZW w
  simpa only [AV.vs, AV.v, clA, i1_v R e0] using this
 ·cases hg
def Zz.f (b0 b1 b2 b3 b4 b5 b6 b7 b8 : Int) (b9 : Bool) : Option (TC) := some (b0, b1, b2, 0, 0, b5, b6, b7, b8, b9)
def Zz.F (b0 b1 b2 b3 b4 b5 b6 b7 b8 : Int) (b9 : Bool) : TC := (Zz.f b0 b1 b2 b3 b4 b5 b6 b7 b8 b9).getD (0, 0, 0, 0, 0, 0, 0, 0, 0, false)
theorem Zz.f.isS (b0 b1 b2 b3 b4 b5 b6 b7 b8 : Int) (b9 : Bool) : ∃ r, Zz.f b0 b1 b2 b3 b4 b5 b6 b7 b8 b9 = some r := by
 unfold Zz.f
 repeat' (first | exact ⟨_, rfl⟩ | (exfalso; omega) | split)
theorem Zz.tot (b0 b1 b2 b3 b4 b5 b6 b7 b8 : Int) (b9 : Bool) : Zz.f b0 b1 b2 b3 b4 b5 b6 b7 b8 b9 = some (Zz.F b0 b1 b2 b3 b4 b5 b6 b7 b8 b9) := by
 obtain ⟨r, h⟩ := Zz.f.isS b0 b1 b2 b3 b4 b5 b6 b7 b8 b9
 unfold Zz.F
 rw [h]
 rfl
def Zz.g : List AV → Option AV
 | [x0] => (dC x0).bind fun c0 => some (.agg [.int (Zz.F c0.f0 c0.f1 c0.f2 c0.f3 c0.f4 c0.f5 c0.f6 c0.f7 c0.f8 c0.f9).1, .int (Zz.F c0.f0 c0.f1 c0.f2 c0.f3 c0.f4 c0.f5 c0.f6 c0.f7 c0.f8 c0.f9).2.1, .int (Zz.F c0.f0 c0.f1 c0.f2 c0.f3 c0.f4 c0.f5 c0.f6 c0.f7 c0.f8 c0.f9).2.2.1, .int (Zz.F c0.f0 c0.f1 c0.f2 c0.f3 c0.f4 c0.f5 c0.f6 c0.f7 c0.f8 c0.f9).2.2.2.1, .int (Zz.F c0.f0 c0.f1 c0.f2 c0.f3 c0.f4 c0.f5 c0.f6 c0.f7 c0.f8 c0.f9).2.2.2.2.1, .int (Zz.F c0.f0 c0.f1 c0.f2 c0.f3 c0.f4 c0.f5 c0.f6 c0.f7 c0.f8 c0.f9).2.2.2.2.2.1, .int (Zz.F c0.f0 c0.f1 c0.f2 c0.f3 c0.f4 c0.f5 c0.f6 c0.f7 c0.f8 c0.f9).2.2.2.2.2.2.1, .int (Zz.F c0.f0 c0.f1 c0.f2 c0.f3 c0.f4 c0.f5 c0.f6 c0.f7 c0.f8 c0.f9).2.2.2.2.2.2.2.1, .int (Zz.F c0.f0 c0.f1 c0.f2 c0.f3 c0.f4 c0.f5 c0.f6 c0.f7 c0.f8 c0.f9).2.2.2.2.2.2.2.2.1, .bool (Zz.F c0.f0 c0.f1 c0.f2 c0.f3 c0.f4 c0.f5 c0.f6 c0.f7 c0.f8 c0.f9).2.2.2.2.2.2.2.2.2])
 | _ => none
theorem Zz.walk (b0 b1 b2 b3 b4 b5 b6 b7 b8 : Int) (b9 : Bool) : Walk 76 [] 3 900 [.agg [.int b0, .int b1, .int b2, .int b3, .int b4, .int b5, .int b6, .int b7, .int b8, .bool b9]] ((.agg [.int (Zz.F b0 b1 b2 b3 b4 b5 b6 b7 b8 b9).1, .int (Zz.F b0 b1 b2 b3 b4 b5 b6 b7 b8 b9).2.1, .int (Zz.F b0 b1 b2 b3 b4 b5 b6 b7 b8 b9).2.2.1, .int (Zz.F b0 b1 b2 b3 b4 b5 b6 b7 b8 b9).2.2.2.1, .int (Zz.F b0 b1 b2 b3 b4 b5 b6 b7 b8 b9).2.2.2.2.1, .int (Zz.F b0 b1 b2 b3 b4 b5 b6 b7 b8 b9).2.2.2.2.2.1, .int (Zz.F b0 b1 b2 b3 b4 b5 b6 b7 b8 b9).2.2.2.2.2.2.1, .int (Zz.F b0 b1 b2 b3 b4 b5 b6 b7 b8 b9).2.2.2.2.2.2.2.1, .int (Zz.F b0 b1 b2 b3 b4 b5 b6 b7 b8 b9).2.2.2.2.2.2.2.2.1, .bool (Zz.F b0 b1 b2 b3 b4 b5 b6 b7 b8 b9).2.2.2.2.2.2.2.2.2] : AV).v R0) := by
 refine w1 fun v O hv hO => ⟨_, _, Tryz.func76, rfl, by kernel_rfl, Nat.le_of_ble_eq_true rfl, ?_⟩
 (try cbv)
 repeat' (apply And.intro <;> (try intro h) <;> (try cbv))
 all_goals (subst hv hO; (try dsimp only [std] at *); (try simp only [nt_] at *)) <;> first | rfl | (simp only [Zz.F, Zz.f, AV.v, AV.vs, nv_, reduceIte, *]; done) | (simp_all (maxSteps := 1000000) [std, Zz.F, Zz.f, AV.v, AV.vs] <;> (repeat' split) <;> first | rfl | omega | (simp_all; done) | (simp_all; omega))
theorem Zz.fn : Fn 76 Zz.g := by
 refine ⟨⟨_, Tryz.func76, rfl, rfl⟩, fun R l v hg w => ?_⟩
 unfold Zz.g at hg
 split at hg
 ·rename_i x0
  obtain ⟨c0, e0, hg⟩ := Option.bind_eq_some_iff.1 hg
  injection hg with hg
  subst hg
  have := (Zz.walk c0.f0 c0.f1 c0.f2 c0.f3 c0.f4 c0.f5 c0.f6 c0.f7 c0.f8 c0.f9).calls ZW w
  simpa only [AV.vs, AV.v, clA, dC_v R e0] using this
 ·cases hg
def ZS.f (b0 b1 b2 b3 b4 b5 b6 b7 b8 : Int) (b9 : Bool) (a1 : Int) : Option (TC) := (Zm.f b0 b1 b2 (wrap64 (b3 + 1)) b4 b5 b6 b7 b8 b9 a1).bind fun a3 => (some (a3.1, a3.2.1, a3.2.2.1, a3.2.2.2.1, a3.2.2.2.2.1, a3.2.2.2.2.2.1, a3.2.2.2.2.2.2.1, a3.2.2.2.2.2.2.2.1, a3.2.2.2.2.2.2.2.2.1, a3.2.2.2.2.2.2.2.2.2))
def ZS.F (b0 b1 b2 b3 b4 b5 b6 b7 b8 : Int) (b9 : Bool) (a1 : Int) : TC := (ZS.f b0 b1 b2 b3 b4 b5 b6 b7 b8 b9 a1).getD (0, 0, 0, 0, 0, 0, 0, 0, 0, false)
theorem ZS.f.isS (b0 b1 b2 b3 b4 b5 b6 b7 b8 : Int) (b9 : Bool) (a1 : Int) : ∃ r, ZS.f b0 b1 b2 b3 b4 b5 b6 b7 b8 b9 a1 = some r := by
 unfold ZS.f
 (try simp only [Zm.tot, Option.bind_some])
 repeat' (first | exact ⟨_, rfl⟩ | (exfalso; omega) | split)
theorem ZS.tot (b0 b1 b2 b3 b4 b5 b6 b7 b8 : Int) (b9 : Bool) (a1 : Int) : ZS.f b0 b1 b2 b3 b4 b5 b6 b7 b8 b9 a1 = some (ZS.F b0 b1 b2 b3 b4 b5 b6 b7 b8 b9 a1) := by
 obtain ⟨r, h⟩ := ZS.f.isS b0 b1 b2 b3 b4 b5 b6 b7 b8 b9 a1
 unfold ZS.F
 rw [h]
 rfl
def ZS.g : List AV → Option AV
 | [x0, x1] => (dC x0).bind fun c0 => (i1 x1).bind fun c1 => some (.agg [.int (ZS.F c0.f0 c0.f1 c0.f2 c0.f3 c0.f4 c0.f5 c0.f6 c0.f7 c0.f8 c0.f9 c1).1, .int (ZS.F c0.f0 c0.f1 c0.f2 c0.f3 c0.f4 c0.f5 c0.f6 c0.f7 c0.f8 c0.f9 c1).2.1, .int (ZS.F c0.f0 c0.f1 c0.f2 c0.f3 c0.f4 c0.f5 c0.f6 c0.f7 c0.f8 c0.f9 c1).2.2.1, .int (ZS.F c0.f0 c0.f1 c0.f2 c0.f3 c0.f4 c0.f5 c0.f6 c0.f7 c0.f8 c0.f9 c1).2.2.2.1, .int (ZS.F c0.f0 c0.f1 c0.f2 c0.f3 c0.f4 c0.f5 c0.f6 c0.f7 c0.f8 c0.f9 c1).2.2.2.2.1, .int (ZS.F c0.f0 c0.f1 c0.f2 c0.f3 c0.f4 c0.f5 c0.f6 c0.f7 c0.f8 c0.f9 c1).2.2.2.2.2.1, .int (ZS.F c0.f0 c0.f1 c0.f2 c0.f3 c0.f4 c0.f5 c0.f6 c0.f7 c0.f8 c0.f9 c1).2.2.2.2.2.2.1, .int (ZS.F c0.f0 c0.f1 c0.f2 c0.f3 c0.f4 c0.f5 c0.f6 c0.f7 c0.f8 c0.f9 c1).2.2.2.2.2.2.2.1, .int (ZS.F c0.f0 c0.f1 c0.f2 c0.f3 c0.f4 c0.f5 c0.f6 c0.f7 c0.f8 c0.f9 c1).2.2.2.2.2.2.2.2.1, .bool (ZS.F c0.f0 c0.f1 c0.f2 c0.f3 c0.f4 c0.f5 c0.f6 c0.f7 c0.f8 c0.f9 c1).2.2.2.2.2.2.2.2.2])
 | _ => none
theorem ZS.walk (b0 b1 b2 b3 b4 b5 b6 b7 b8 : Int) (b9 : Bool) (a1 : Int) : Walk 77 [(43, Zm.g)] 4 900 [.agg [.int b0, .int b1, .int b2, .int b3, .int b4, .int b5, .int b6, .int b7, .int b8, .bool b9], .int a1] ((.agg [.int (ZS.F b0 b1 b2 b3 b4 b5 b6 b7 b8 b9 a1).1, .int (ZS.F b0 b1 b2 b3 b4 b5 b6 b7 b8 b9 a1).2.1, .int (ZS.F b0 b1 b2 b3 b4 b5 b6 b7 b8 b9 a1).2.2.1, .int (ZS.F b0 b1 b2 b3 b4 b5 b6 b7 b8 b9 a1).2.2.2.1, .int (ZS.F b0 b1 b2 b3 b4 b5 b6 b7 b8 b9 a1).2.2.2.2.1, .int (ZS.F b0 b1 b2 b3 b4 b5 b6 b7 b8 b9 a1).2.2.2.2.2.1, .int (ZS.F b0 b1 b2 b3 b4 b5 b6 b7 b8 b9 a1).2.2.2.2.2.2.1, .int (ZS.F b0 b1 b2 b3 b4 b5 b6 b7 b8 b9 a1).2.2.2.2.2.2.2.1, .int (ZS.F b0 b1 b2 b3 b4 b5 b6 b7 b8 b9 a1).2.2.2.2.2.2.2.2.1, .bool (ZS.F b0 b1 b2 b3 b4 b5 b6 b7 b8 b9 a1).2.2.2.2.2.2.2.2.2] : AV).v R0) := by
 refine w1 fun v O hv hO => ⟨_, _, Tryz.func77, rfl, by kernel_rfl, Nat.le_of_ble_eq_true rfl, ?_⟩
 unfold Zm.g
 generalize hf0 : Zm.F = f0
 (try cbv)
 repeat' (apply And.intro <;> (try intro h) <;> (try cbv))
 all_goals (subst hv hO; subst hf0; (try dsimp only [std] at *); (try simp only [nt_] at *)) <;> first | rfl | (simp only [ZS.F, ZS.f, AV.v, AV.vs, Zm.tot, nv_, reduceIte, *]; done) | (simp_all (maxSteps := 1000000) [std, ZS.F, ZS.f, AV.v, AV.vs, Zm.tot] <;> (repeat' split) <;> first | rfl | omega | (simp_all; done) | (simp_all; omega))
theorem ZS.fn : Fn 77 ZS.g := by
 refine ⟨⟨_, Tryz.func77, rfl, rfl⟩, fun R l v hg w => ?_⟩
 unfold ZS.g at hg
 split at hg
 ·rename_i x0 x1
  obtain ⟨c0, e0, hg⟩ := Option.bind_eq_some_iff.1 hg
  obtain ⟨c1, e1, hg⟩ := Option.bind_eq_some_iff.1 hg
  injection hg with hg
  subst hg
  have := (ZS.walk c0.f0 c0.f1 c0.f2 c0.f3 c0.f4 c0.f5 c0.f6 c0.f7 c0.f8 c0.f9 c1).calls (all_cons Zm.fn ZW) w
  simpa only [AV.vs, AV.v, clA, dC_v R e0, i1_v R e1] using this
 ·cases hg
def Zq.f (a0 : Int) : Option (Int) := some (wrap64 ((wrap64 (Int.tdiv a0 2)) - 1))
def Zq.F (a0 : Int) : Int := (Zq.f a0).getD (0)
theorem Zq.f.isS (a0 : Int) : ∃ r, Zq.f a0 = some r := by
 unfold Zq.f
 repeat' (first | exact ⟨_, rfl⟩ | (exfalso; omega) | split)
theorem Zq.tot (a0 : Int) : Zq.f a0 = some (Zq.F a0) := by
 obtain ⟨r, h⟩ := Zq.f.isS a0
 unfold Zq.F
 rw [h]
 rfl
def Zq.g : List AV → Option AV
 | [x0] => (i1 x0).bind fun c0 => some (.int (Zq.F c0))
 | _ => none
theorem Zq.walk (a0 : Int) : Walk 123 [] 3 900 [.int a0] ((.int (Zq.F a0) : AV).v R0) := by
 refine w1 fun v O hv hO => ⟨_, _, Tryz.func123, rfl, by kernel_rfl, Nat.le_of_ble_eq_true rfl, ?_⟩
 (try cbv)
 repeat' (apply And.intro <;> (try intro h) <;> (try cbv))
 all_goals (subst hv hO; (try dsimp only [std] at *); (try simp only [nt_] at *)) <;> first | rfl | (simp only [Zq.F, Zq.f, AV.v, AV.vs, nv_, reduceIte, *]; done) | (simp_all (maxSteps := 1000000) [std, Zq.F, Zq.f, AV.v, AV.vs] <;> (repeat' split) <;> first | rfl | omega | (simp_all; done) | (simp_all; omega))
theorem Zq.fn : Fn 123 Zq.g := by
 refine ⟨⟨_, Tryz.func123, rfl, rfl⟩, fun R l v hg w => ?_⟩
 unfold Zq.g at hg
 split at hg
 ·rename_i x0
  obtain ⟨c0, e0, hg⟩ := Option.bind_eq_some_iff.1 hg
  injection hg with hg
  subst hg
  have := (Zq.walk c0).calls ZW w
  simpa only [AV.vs, AV.v, clA, i1_v R e0] using this
 ·cases hg
def Zr.f (a0 a1 : Int) : Option (Bool) := if a0 ≥ 0 then ((Zq.f a0).bind fun e9 => (some (decide (e9 < a1)))) else (some false)
def Zr.F (a0 a1 : Int) : Bool := (Zr.f a0 a1).getD (false)
theorem Zr.f.isS (a0 a1 : Int) : ∃ r, Zr.f a0 a1 = some r := by
 unfold Zr.f
 (try simp only [Zq.tot, Option.bind_some])
 repeat' (first | exact ⟨_, rfl⟩ | (exfalso; omega) | split)
theorem Zr.tot (a0 a1 : Int) : Zr.f a0 a1 = some (Zr.F a0 a1) := by
 obtain ⟨r, h⟩ := Zr.f.isS a0 a1
 unfold Zr.F
 rw [h]
 rfl
def Zr.g : List AV → Option AV
 | [x0, x1] => (i1 x0).bind fun c0 => (i1 x1).bind fun c1 => some (.bool (Zr.F c0 c1))
 | _ => none
theorem Zr.walk (a0 a1 : Int) : Walk 113 [(123, Zq.g)] 4 900 [.int a0, .int a1] ((.bool (Zr.F a0 a1) : AV).v R0) := by
 refine w1 fun v O hv hO => ⟨_, _, Tryz.func113, rfl, by kernel_rfl, Nat.le_of_ble_eq_true rfl, ?_⟩
 unfold Zq.g
 generalize hf0 : Zq.F = f0
 (try cbv)
 repeat' (apply And.intro <;> (try intro h) <;> (try cbv))
 all_goals (subst hv hO; subst hf0; (try dsimp only [std] at *); (try simp only [nt_] at *)) <;> first | rfl | (simp only [Zr.F, Zr.f, AV.v, AV.vs, Zq.tot, nv_, reduceIte, *]; done) | (simp_all (maxSteps := 1000000) [std, Zr.F, Zr.f, AV.v, AV.vs, Zq.tot] <;> (repeat' split) <;> first | rfl | omega | (simp_all; done) | (simp_all; omega))
theorem Zr.fn : Fn 113 Zr.g := by
 refine ⟨⟨_, Tryz.func113, rfl, rfl⟩, fun R l v hg w => ?_⟩
 unfold Zr.g at hg
 split at hg
 ·rename_i x0 x1
  obtain ⟨c0, e0, hg⟩ := Option.bind_eq_some_iff.1 hg
  obtain ⟨c1, e1, hg⟩ := Option.bind_eq_some_iff.1 hg
  injection hg with hg
  subst hg
  have := (Zr.walk c0 c1).calls (all_cons Zq.fn ZW) w
  simpa only [AV.vs, AV.v, clA, i1_v R e0, i1_v R e1] using this
 ·cases hg
def Zp.f (a0 a1 : Int) : Option (Bool) := if a0 = 1 then ((impl_within.f a1 0 6).bind fun g0 => (some g0)) else (if a0 = 2 then ((impl_within.f a1 0 3).bind fun g1 => (if g1 = true then (some true) else (some (a1 == 7)))) else (if a0 = 3 then ((impl_within.f a1 0 2).bind fun g2 => (some g2)) else (some false)))
def Zp.F (a0 a1 : Int) : Bool := (Zp.f a0 a1).getD (false)
theorem Zp.f.isS (a0 a1 : Int) : ∃ r, Zp.f a0 a1 = some r := by
 unfold Zp.f
 (try simp only [impl_within.tot, Option.bind_some])
 repeat' (first | exact ⟨_, rfl⟩ | (exfalso; omega) | split)
theorem Zp.tot (a0 a1 : Int) : Zp.f a0 a1 = some (Zp.F a0 a1) := by
 obtain ⟨r, h⟩ := Zp.f.isS a0 a1
 unfold Zp.F
 rw [h]
 rfl
def Zp.g : List AV → Option AV
 | [x0, x1] => (i1 x0).bind fun c0 => (i1 x1).bind fun c1 => some (.bool (Zp.F c0 c1))
 | _ => none
theorem Zp.walk (a0 a1 : Int) : Walk 121 [(82, impl_within.g)] 5 900 [.int a0, .int a1] ((.bool (Zp.F a0 a1) : AV).v R0) := by
 refine w1 fun v O hv hO => ⟨_, _, Tryz.func121, rfl, by kernel_rfl, Nat.le_of_ble_eq_true rfl, ?_⟩
 unfold impl_within.g
 generalize hf0 : impl_within.F = f0
 (try cbv)
 repeat' (apply And.intro <;> (try intro h) <;> (try cbv))
 all_goals (subst hv hO; subst hf0; (try dsimp only [std] at *); (try simp only [nt_] at *)) <;> first | rfl | (simp only [Zp.F, Zp.f, AV.v, AV.vs, impl_within.tot, nv_, reduceIte, *]; done) | (simp_all (maxSteps := 1000000) [std, Zp.F, Zp.f, AV.v, AV.vs, impl_within.tot] <;> (repeat' split) <;> first | rfl | omega | (simp_all; done) | (simp_all; omega))
theorem Zp.fn : Fn 121 Zp.g := by
 refine ⟨⟨_, Tryz.func121, rfl, rfl⟩, fun R l v hg w => ?_⟩
 unfold Zp.g at hg
 split at hg
 ·rename_i x0 x1
  obtain ⟨c0, e0, hg⟩ := Option.bind_eq_some_iff.1 hg
  obtain ⟨c1, e1, hg⟩ := Option.bind_eq_some_iff.1 hg
  injection hg with hg
  subst hg
  have := (Zp.walk c0 c1).calls (all_cons impl_within.fn ZW) w
  simpa only [AV.vs, AV.v, clA, i1_v R e0, i1_v R e1] using this
 ·cases hg
def Zl.f (a0 : Int) : Option (Int) := some (wrap64 (2 + (wrap64 (2 * a0))))
def Zl.F (a0 : Int) : Int := (Zl.f a0).getD (0)
theorem Zl.f.isS (a0 : Int) : ∃ r, Zl.f a0 = some r := by
 unfold Zl.f
 repeat' (first | exact ⟨_, rfl⟩ | (exfalso; omega) | split)
theorem Zl.tot (a0 : Int) : Zl.f a0 = some (Zl.F a0) := by
 obtain ⟨r, h⟩ := Zl.f.isS a0
 unfold Zl.F
 rw [h]
 rfl
def Zl.g : List AV → Option AV
 | [x0] => (i1 x0).bind fun c0 => some (.int (Zl.F c0))
 | _ => none
theorem Zl.walk (a0 : Int) : Walk 122 [] 3 900 [.int a0] ((.int (Zl.F a0) : AV).v R0) := by
 refine w1 fun v O hv hO => ⟨_, _, Tryz.func122, rfl, by kernel_rfl, Nat.le_of_ble_eq_true rfl, ?_⟩
 (try cbv)
 repeat' (apply And.intro <;> (try intro h) <;> (try cbv))
 all_goals (subst hv hO; (try dsimp only [std] at *); (try simp only [nt_] at *)) <;> first | rfl | (simp only [Zl.F, Zl.f, AV.v, AV.vs, nv_, reduceIte, *]; done) | (simp_all (maxSteps := 1000000) [std, Zl.F, Zl.f, AV.v, AV.vs] <;> (repeat' split) <;> first | rfl | omega | (simp_all; done) | (simp_all; omega))
theorem Zl.fn : Fn 122 Zl.g := by
 refine ⟨⟨_, Tryz.func122, rfl, rfl⟩, fun R l v hg w => ?_⟩
 unfold Zl.g at hg
 split at hg
 ·rename_i x0
  obtain ⟨c0, e0, hg⟩ := Option.bind_eq_some_iff.1 hg
  injection hg with hg
  subst hg
  have := (Zl.walk c0).calls ZW w
  simpa only [AV.vs, AV.v, clA, i1_v R e0] using this
 ·cases hg
def Zs.f (a0 : Int) : Option (Int) := some (wrap64 (1 + (wrap64 (2 * a0))))
def Zs.F (a0 : Int) : Int := (Zs.f a0).getD (0)
theorem Zs.f.isS (a0 : Int) : ∃ r, Zs.f a0 = some r := by
 unfold Zs.f
 repeat' (first | exact ⟨_, rfl⟩ | (exfalso; omega) | split)
theorem Zs.tot (a0 : Int) : Zs.f a0 = some (Zs.F a0) := by
 obtain ⟨r, h⟩ := Zs.f.isS a0
 unfold Zs.F
 rw [h]
 rfl
def Zs.g : List AV → Option AV
 | [x0] => (i1 x0).bind fun c0 => some (.int (Zs.F c0))
 | _ => none
theorem Zs.walk (a0 : Int) : Walk 124 [] 3 900 [.int a0] ((.int (Zs.F a0) : AV).v R0) := by
 refine w1 fun v O hv hO => ⟨_, _, Tryz.func124, rfl, by kernel_rfl, Nat.le_of_ble_eq_true rfl, ?_⟩
 (try cbv)
 repeat' (apply And.intro <;> (try intro h) <;> (try cbv))
 all_goals (subst hv hO; (try dsimp only [std] at *); (try simp only [nt_] at *)) <;> first | rfl | (simp only [Zs.F, Zs.f, AV.v, AV.vs, nv_, reduceIte, *]; done) | (simp_all (maxSteps := 1000000) [std, Zs.F, Zs.f, AV.v, AV.vs] <;> (repeat' split) <;> first | rfl | omega | (simp_all; done) | (simp_all; omega))
theorem Zs.fn : Fn 124 Zs.g := by
 refine ⟨⟨_, Tryz.func124, rfl, rfl⟩, fun R l v hg w => ?_⟩
 unfold Zs.g at hg
 split at hg
 ·rename_i x0
  obtain ⟨c0, e0, hg⟩ := Option.bind_eq_some_iff.1 hg
  injection hg with hg
  subst hg
  have := (Zs.walk c0).calls ZW w
  simpa only [AV.vs, AV.v, clA, i1_v R e0] using this
 ·cases hg
def Z1.f (a0 : Int) : Option (Bool) := some ((Int.tmod a0 2) != 0)
def Z1.F (a0 : Int) : Bool := (Z1.f a0).getD (false)
theorem Z1.f.isS (a0 : Int) : ∃ r, Z1.f a0 = some r := by
 unfold Z1.f
 repeat' (first | exact ⟨_, rfl⟩ | (exfalso; omega) | split)
theorem Z1.tot (a0 : Int) : Z1.f a0 = some (Z1.F a0) := by
 obtain ⟨r, h⟩ := Z1.f.isS a0
 unfold Z1.F
 rw [h]
 rfl
def Z1.g : List AV → Option AV
 | [x0] => (i1 x0).bind fun c0 => some (.bool (Z1.F c0))
 | _ => none
theorem Z1.walk (a0 : Int) : Walk 125 [] 3 900 [.int a0] ((.bool (Z1.F a0) : AV).v R0) := by
 refine w1 fun v O hv hO => ⟨_, _, Tryz.func125, rfl, by kernel_rfl, Nat.le_of_ble_eq_true rfl, ?_⟩
 (try cbv)
 repeat' (apply And.intro <;> (try intro h) <;> (try cbv))
 all_goals (subst hv hO; (try dsimp only [std] at *); (try simp only [nt_] at *)) <;> first | rfl | (simp only [Z1.F, Z1.f, AV.v, AV.vs, nv_, reduceIte, *]; done) | (simp_all (maxSteps := 1000000) [std, Z1.F, Z1.f, AV.v, AV.vs] <;> (repeat' split) <;> first | rfl | omega | (simp_all; done) | (simp_all; omega))
theorem Z1.fn : Fn 125 Z1.g := by
 refine ⟨⟨_, Tryz.func125, rfl, rfl⟩, fun R l v hg w => ?_⟩
 unfold Z1.g at hg
 split at hg
 ·rename_i x0
  obtain ⟨c0, e0, hg⟩ := Option.bind_eq_some_iff.1 hg
  injection hg with hg
  subst hg
  have := (Z1.walk c0).calls ZW w
  simpa only [AV.vs, AV.v, clA, i1_v R e0] using this
 ·cases hg
def Zae.f (a0 : Int) : Option (Bool) := if a0 ≥ 1 then (some (decide (a0 ≤ 3))) else (some false)
def Zae.F (a0 : Int) : Bool := (Zae.f a0).getD (false)
theorem Zae.f.isS (a0 : Int) : ∃ r, Zae.f a0 = some r := by
 unfold Zae.f
 repeat' (first | exact ⟨_, rfl⟩ | (exfalso; omega) | split)
theorem Zae.tot (a0 : Int) : Zae.f a0 = some (Zae.F a0) := by
 obtain ⟨r, h⟩ := Zae.f.isS a0
 unfold Zae.F
 rw [h]
 rfl
def Zae.g : List AV → Option AV
 | [x0] => (i1 x0).bind fun c0 => some (.bool (Zae.F c0))
 | _ => none
theorem Zae.walk (a0 : Int) : Walk 37 [] 4 900 [.int a0] ((.bool (Zae.F a0) : AV).v R0) := by
 refine w1 fun v O hv hO => ⟨_, _, Tryz.func37, rfl, by kernel_rfl, Nat.le_of_ble_eq_true rfl, ?_⟩
 (try cbv)
 repeat' (apply And.intro <;> (try intro h) <;> (try cbv))
 all_goals (subst hv hO; (try dsimp only [std] at *); (try simp only [nt_] at *)) <;> first | rfl | (simp only [Zae.F, Zae.f, AV.v, AV.vs, nv_, reduceIte, *]; done) | (simp_all (maxSteps := 1000000) [std, Zae.F, Zae.f, AV.v, AV.vs] <;> (repeat' split) <;> first | rfl | omega | (simp_all; done) | (simp_all; omega))
theorem Zae.fn : Fn 37 Zae.g := by
 refine ⟨⟨_, Tryz.func37, rfl, rfl⟩, fun R l v hg w => ?_⟩
 unfold Zae.g at hg
 split at hg
 ·rename_i x0
  obtain ⟨c0, e0, hg⟩ := Option.bind_eq_some_iff.1 hg
  injection hg with hg
  subst hg
  have := (Zae.walk c0).calls ZW w
  simpa only [AV.vs, AV.v, clA, i1_v R e0] using this
 ·cases hg
def Z0.f (a0 a1 : Int) : Option (Int) := if a0 = 1 then (some (wrap64 (1 + a1))) else (if a0 = 2 then (some (wrap64 (2 + (wrap64 (2 * a1))))) else (some (wrap64 (1 + (wrap64 (2 * a1))))))
def Z0.F (a0 a1 : Int) : Int := (Z0.f a0 a1).getD (0)
theorem Z0.f.isS (a0 a1 : Int) : ∃ r, Z0.f a0 a1 = some r := by
 unfold Z0.f
 repeat' (first | exact ⟨_, rfl⟩ | (exfalso; omega) | split)
theorem Z0.tot (a0 a1 : Int) : Z0.f a0 a1 = some (Z0.F a0 a1) := by
 obtain ⟨r, h⟩ := Z0.f.isS a0 a1
 unfold Z0.F
 rw [h]
 rfl
def Z0.g : List AV → Option AV
 | [x0, x1] => (i1 x0).bind fun c0 => (i1 x1).bind fun c1 => some (.int (Z0.F c0 c1))
 | _ => none
theorem Z0.walk (a0 a1 : Int) : Walk 39 [] 5 900 [.int a0, .int a1] ((.int (Z0.F a0 a1) : AV).v R0) := by
 refine w1 fun v O hv hO => ⟨_, _, Tryz.func39, rfl, by kernel_rfl, Nat.le_of_ble_eq_true rfl, ?_⟩
 (try cbv)
 repeat' (apply And.intro <;> (try intro h) <;> (try cbv))
 all_goals (subst hv hO; (try dsimp only [std] at *); (try simp only [nt_] at *)) <;> first | rfl | (simp only [Z0.F, Z0.f, AV.v, AV.vs, nv_, reduceIte, *]; done) | (simp_all (maxSteps := 1000000) [std, Z0.F, Z0.f, AV.v, AV.vs] <;> (repeat' split) <;> first | rfl | omega | (simp_all; done) | (simp_all; omega))
theorem Z0.fn : Fn 39 Z0.g := by
 refine ⟨⟨_, Tryz.func39, rfl, rfl⟩, fun R l v hg w => ?_⟩
 unfold Z0.g at hg
 split at hg
 ·rename_i x0 x1
  obtain ⟨c0, e0, hg⟩ := Option.bind_eq_some_iff.1 hg
  obtain ⟨c1, e1, hg⟩ := Option.bind_eq_some_iff.1 hg
  injection hg with hg
  subst hg
  have := (Z0.walk c0 c1).calls ZW w
  simpa only [AV.vs, AV.v, clA, i1_v R e0, i1_v R e1] using this
 ·cases hg
def Z2.f (a0 a1 : Int) : Option (TC) := if a0 = 1 then (some (a0, a1, 0, 0, 0, 0, 0, 0, 0, false)) else (if a0 = 2 then (some (a0, 0, 0, 0, 0, 0, 0, 0, 0, false)) else (some (0, 0, 0, 0, 0, 0, 0, 0, 0, false)))
def Z2.F (a0 a1 : Int) : TC := (Z2.f a0 a1).getD (0, 0, 0, 0, 0, 0, 0, 0, 0, false)
theorem Z2.f.isS (a0 a1 : Int) : ∃ r, Z2.f a0 a1 = some r := by
 unfold Z2.f
 repeat' (first | exact ⟨_, rfl⟩ | (exfalso; omega) | split)
theorem Z2.tot (a0 a1 : Int) : Z2.f a0 a1 = some (Z2.F a0 a1) := by
 obtain ⟨r, h⟩ := Z2.f.isS a0 a1
 unfold Z2.F
 rw [h]
 rfl
def Z2.g : List AV → Option AV
 | [x0, x1] => (i1 x0).bind fun c0 => (i1 x1).bind fun c1 => some (.agg [.int (Z2.F c0 c1).1, .int (Z2.F c0 c1).2.1, .int (Z2.F c0 c1).2.2.1, .int (Z2.F c0 c1).2.2.2.1, .int (Z2.F c0 c1).2.2.2.2.1, .int (Z2.F c0 c1).2.2.2.2.2.1, .int (Z2.F c0 c1).2.2.2.2.2.2.1, .int (Z2.F c0 c1).2.2.2.2.2.2.2.1, .int (Z2.F c0 c1).2.2.2.2.2.2.2.2.1, .bool (Z2.F c0 c1).2.2.2.2.2.2.2.2.2])
 | _ => none
theorem Z2.walk (a0 a1 : Int) : Walk 88 [] 5 900 [.int a0, .int a1] ((.agg [.int (Z2.F a0 a1).1, .int (Z2.F a0 a1).2.1, .int (Z2.F a0 a1).2.2.1, .int (Z2.F a0 a1).2.2.2.1, .int (Z2.F a0 a1).2.2.2.2.1, .int (Z2.F a0 a1).2.2.2.2.2.1, .int (Z2.F a0 a1).2.2.2.2.2.2.1, .int (Z2.F a0 a1).2.2.2.2.2.2.2.1, .int (Z2.F a0 a1).2.2.2.2.2.2.2.2.1, .bool (Z2.F a0 a1).2.2.2.2.2.2.2.2.2] : AV).v R0) := by
 refine w1 fun v O hv hO => ⟨_, _, Tryz.func88, rfl, by kernel_rfl, Nat.le_of_ble_eq_true rfl, ?_⟩
 (try cbv)
 repeat' (apply And.intro <;> (try intro h) <;> (try cbv))
 all_goals (subst hv hO; (try dsimp only [std] at *); (try simp only [nt_] at *)) <;> first | rfl | (simp only [Z2.F, Z2.f, AV.v, AV.vs, nv_, reduceIte, *]; done) | (simp_all (maxSteps := 1000000) [std, Z2.F, Z2.f, AV.v, AV.vs] <;> (repeat' split) <;> first | rfl | omega | (simp_all; done) | (simp_all; omega))
theorem Z2.fn : Fn 88 Z2.g := by
 refine ⟨⟨_, Tryz.func88, rfl, rfl⟩, fun R l v hg w => ?_⟩
 unfold Z2.g at hg
 split at hg
 ·rename_i x0 x1
  obtain ⟨c0, e0, hg⟩ := Option.bind_eq_some_iff.1 hg
  obtain ⟨c1, e1, hg⟩ := Option.bind_eq_some_iff.1 hg
  injection hg with hg
  subst hg
  have := (Z2.walk c0 c1).calls ZW w
  simpa only [AV.vs, AV.v, clA, i1_v R e0, i1_v R e1] using this
 ·cases hg
def Z3.f (a0 a1 : Int) : Option (TC) := if a0 = 1 then (some (a0, a1, 0, 0, 0, 0, 0, 0, 0, false)) else (if a0 = 2 then (some (a0, 0, 0, 0, 0, 0, 0, 0, 0, false)) else (some (0, 0, 0, 0, 0, 0, 0, 0, 0, false)))
def Z3.F (a0 a1 : Int) : TC := (Z3.f a0 a1).getD (0, 0, 0, 0, 0, 0, 0, 0, 0, false)
theorem Z3.f.isS (a0 a1 : Int) : ∃ r, Z3.f a0 a1 = some r := by
 unfold Z3.f
 repeat' (first | exact ⟨_, rfl⟩ | (exfalso; omega) | split)
theorem Z3.tot (a0 a1 : Int) : Z3.f a0 a1 = some (Z3.F a0 a1) := by
 obtain ⟨r, h⟩ := Z3.f.isS a0 a1
 unfold Z3.F
 rw [h]
 rfl
def Z3.g : List AV → Option AV
 | [x0, x1] => (i1 x0).bind fun c0 => (i1 x1).bind fun c1 => some (.agg [.int (Z3.F c0 c1).1, .int (Z3.F c0 c1).2.1, .int (Z3.F c0 c1).2.2.1, .int (Z3.F c0 c1).2.2.2.1, .int (Z3.F c0 c1).2.2.2.2.1, .int (Z3.F c0 c1).2.2.2.2.2.1, .int (Z3.F c0 c1).2.2.2.2.2.2.1, .int (Z3.F c0 c1).2.2.2.2.2.2.2.1, .int (Z3.F c0 c1).2.2.2.2.2.2.2.2.1, .bool (Z3.F c0 c1).2.2.2.2.2.2.2.2.2])
 | _ => none
theorem Z3.walk (a0 a1 : Int) : Walk 89 [] 5 900 [.int a0, .int a1] ((.agg [.int (Z3.F a0 a1).1, .int (Z3.F a0 a1).2.1, .int (Z3.F a0 a1).2.2.1, .int (Z3.F a0 a1).2.2.2.1, .int (Z3.F a0 a1).2.2.2.2.1, .int (Z3.F a0 a1).2.2.2.2.2.1, .int (Z3.F a0 a1).2.2.2.2.2.2.1, .int (Z3.F a0 a1).2.2.2.2.2.2.2.1, .int (Z3.F a0 a1).2.2.2.2.2.2.2.2.1, .bool (Z3.F a0 a1).2.2.2.2.2.2.2.2.2] : AV).v R0) := by
 refine w1 fun v O hv hO => ⟨_, _, Tryz.func89, rfl, by kernel_rfl, Nat.le_of_ble_eq_true rfl, ?_⟩
 (try cbv)
 repeat' (apply And.intro <;> (try intro h) <;> (try cbv))
 all_goals (subst hv hO; (try dsimp only [std] at *); (try simp only [nt_] at *)) <;> first | rfl | (simp only [Z3.F, Z3.f, AV.v, AV.vs, nv_, reduceIte, *]; done) | (simp_all (maxSteps := 1000000) [std, Z3.F, Z3.f, AV.v, AV.vs] <;> (repeat' split) <;> first | rfl | omega | (simp_all; done) | (simp_all; omega))
theorem Z3.fn : Fn 89 Z3.g := by
 refine ⟨⟨_, Tryz.func89, rfl, rfl⟩, fun R l v hg w => ?_⟩
 unfold Z3.g at hg
 split at hg
 ·rename_i x0 x1
  obtain ⟨c0, e0, hg⟩ := Option.bind_eq_some_iff.1 hg
  obtain ⟨c1, e1, hg⟩ := Option.bind_eq_some_iff.1 hg
  injection hg with hg
  subst hg
  have := (Z3.walk c0 c1).calls ZW w
  simpa only [AV.vs, AV.v, clA, i1_v R e0, i1_v R e1] using this
 ·cases hg
def Z4.f (a0 a1 a2 : Int) : Option (TC) := if a0 = 1 then (some (a0, a1, a2, 0, 0, 0, 0, 0, 0, false)) else (if a0 = 2 then (some (a0, a1, 0, 0, 0, 0, 0, 0, 0, false)) else (if a0 = 3 then (some (a0, a1, 0, 0, 0, 0, 0, 0, 0, false)) else (some (0, 0, 0, 0, 0, 0, 0, 0, 0, false))))
def Z4.F (a0 a1 a2 : Int) : TC := (Z4.f a0 a1 a2).getD (0, 0, 0, 0, 0, 0, 0, 0, 0, false)
theorem Z4.f.isS (a0 a1 a2 : Int) : ∃ r, Z4.f a0 a1 a2 = some r := by
 unfold Z4.f
 repeat' (first | exact ⟨_, rfl⟩ | (exfalso; omega) | split)
theorem Z4.tot (a0 a1 a2 : Int) : Z4.f a0 a1 a2 = some (Z4.F a0 a1 a2) := by
 obtain ⟨r, h⟩ := Z4.f.isS a0 a1 a2
 unfold Z4.F
 rw [h]
 rfl
def Z4.g : List AV → Option AV
 | [x0, x1, x2] => (i1 x0).bind fun c0 => (i1 x1).bind fun c1 => (i1 x2).bind fun c2 => some (.agg [.int (Z4.F c0 c1 c2).1, .int (Z4.F c0 c1 c2).2.1, .int (Z4.F c0 c1 c2).2.2.1, .int (Z4.F c0 c1 c2).2.2.2.1, .int (Z4.F c0 c1 c2).2.2.2.2.1, .int (Z4.F c0 c1 c2).2.2.2.2.2.1, .int (Z4.F c0 c1 c2).2.2.2.2.2.2.1, .int (Z4.F c0 c1 c2).2.2.2.2.2.2.2.1, .int (Z4.F c0 c1 c2).2.2.2.2.2.2.2.2.1, .bool (Z4.F c0 c1 c2).2.2.2.2.2.2.2.2.2])
 | _ => none
theorem Z4.walk (a0 a1 a2 : Int) : Walk 90 [] 5 900 [.int a0, .int a1, .int a2] ((.agg [.int (Z4.F a0 a1 a2).1, .int (Z4.F a0 a1 a2).2.1, .int (Z4.F a0 a1 a2).2.2.1, .int (Z4.F a0 a1 a2).2.2.2.1, .int (Z4.F a0 a1 a2).2.2.2.2.1, .int (Z4.F a0 a1 a2).2.2.2.2.2.1, .int (Z4.F a0 a1 a2).2.2.2.2.2.2.1, .int (Z4.F a0 a1 a2).2.2.2.2.2.2.2.1, .int (Z4.F a0 a1 a2).2.2.2.2.2.2.2.2.1, .bool (Z4.F a0 a1 a2).2.2.2.2.2.2.2.2.2] : AV).v R0) := by
 refine w1 fun v O hv hO => ⟨_, _, Tryz.func90, rfl, by kernel_rfl, Nat.le_of_ble_eq_true rfl, ?_⟩
 (try cbv)
 repeat' (apply And.intro <;> (try intro h) <;> (try cbv))
 all_goals (subst hv hO; (try dsimp only [std] at *); (try simp only [nt_] at *)) <;> first | rfl | (simp only [Z4.F, Z4.f, AV.v, AV.vs, nv_, reduceIte, *]; done) | (simp_all (maxSteps := 1000000) [std, Z4.F, Z4.f, AV.v, AV.vs] <;> (repeat' split) <;> first | rfl | omega | (simp_all; done) | (simp_all; omega))
theorem Z4.fn : Fn 90 Z4.g := by
 refine ⟨⟨_, Tryz.func90, rfl, rfl⟩, fun R l v hg w => ?_⟩
 unfold Z4.g at hg
 split at hg
 ·rename_i x0 x1 x2
  obtain ⟨c0, e0, hg⟩ := Option.bind_eq_some_iff.1 hg
  obtain ⟨c1, e1, hg⟩ := Option.bind_eq_some_iff.1 hg
  obtain ⟨c2, e2, hg⟩ := Option.bind_eq_some_iff.1 hg
  injection hg with hg
  subst hg
  have := (Z4.walk c0 c1 c2).calls ZW w
  simpa only [AV.vs, AV.v, clA, i1_v R e0, i1_v R e1, i1_v R e2] using this
 ·cases hg
def ZY.f (a0 d0 d1 d2 d3 d4 d5 d6 d7 d8 : Int) (d9 : Bool) : Option (TC) := if a0 = 1 then ((Z2.f d0 d1).bind fun a4 => (some (a4.1, a4.2.1, a4.2.2.1, a4.2.2.2.1, a4.2.2.2.2.1, a4.2.2.2.2.2.1, a4.2.2.2.2.2.2.1, a4.2.2.2.2.2.2.2.1, a4.2.2.2.2.2.2.2.2.1, a4.2.2.2.2.2.2.2.2.2))) else (if a0 = 2 then ((Z3.f d0 d1).bind fun a5 => (some (a5.1, a5.2.1, a5.2.2.1, a5.2.2.2.1, a5.2.2.2.2.1, a5.2.2.2.2.2.1, a5.2.2.2.2.2.2.1, a5.2.2.2.2.2.2.2.1, a5.2.2.2.2.2.2.2.2.1, a5.2.2.2.2.2.2.2.2.2))) else ((Z4.f d0 d1 d2).bind fun a6 => (some (a6.1, a6.2.1, a6.2.2.1, a6.2.2.2.1, a6.2.2.2.2.1, a6.2.2.2.2.2.1, a6.2.2.2.2.2.2.1, a6.2.2.2.2.2.2.2.1, a6.2.2.2.2.2.2.2.2.1, a6.2.2.2.2.2.2.2.2.2))))
def ZY.F (a0 d0 d1 d2 d3 d4 d5 d6 d7 d8 : Int) (d9 : Bool) : TC := (ZY.f a0 d0 d1 d2 d3 d4 d5 d6 d7 d8 d9).getD (0, 0, 0, 0, 0, 0, 0, 0, 0, false)
theorem ZY.f.isS (a0 d0 d1 d2 d3 d4 d5 d6 d7 d8 : Int) (d9 : Bool) : ∃ r, ZY.f a0 d0 d1 d2 d3 d4 d5 d6 d7 d8 d9 = some r := by
 unfold ZY.f
 (try simp only [Z2.tot, Z3.tot, Z4.tot, Option.bind_some])
 repeat' (first | exact ⟨_, rfl⟩ | (exfalso; omega) | split)
theorem ZY.tot (a0 d0 d1 d2 d3 d4 d5 d6 d7 d8 : Int) (d9 : Bool) : ZY.f a0 d0 d1 d2 d3 d4 d5 d6 d7 d8 d9 = some (ZY.F a0 d0 d1 d2 d3 d4 d5 d6 d7 d8 d9) := by
 obtain ⟨r, h⟩ := ZY.f.isS a0 d0 d1 d2 d3 d4 d5 d6 d7 d8 d9
 unfold ZY.F
 rw [h]
 rfl
def ZY.g : List AV → Option AV
 | [x0, x1] => (i1 x0).bind fun c0 => (dC x1).bind fun c1 => some (.agg [.int (ZY.F c0 c1.f0 c1.f1 c1.f2 c1.f3 c1.f4 c1.f5 c1.f6 c1.f7 c1.f8 c1.f9).1, .int (ZY.F c0 c1.f0 c1.f1 c1.f2 c1.f3 c1.f4 c1.f5 c1.f6 c1.f7 c1.f8 c1.f9).2.1, .int (ZY.F c0 c1.f0 c1.f1 c1.f2 c1.f3 c1.f4 c1.f5 c1.f6 c1.f7 c1.f8 c1.f9).2.2.1, .int (ZY.F c0 c1.f0 c1.f1 c1.f2 c1.f3 c1.f4 c1.f5 c1.f6 c1.f7 c1.f8 c1.f9).2.2.2.1, .int (ZY.F c0 c1.f0 c1.f1 c1.f2 c1.f3 c1.f4 c1.f5 c1.f6 c1.f7 c1.f8 c1.f9).2.2.2.2.1, .int (ZY.F c0 c1.f0 c1.f1 c1.f2 c1.f3 c1.f4 c1.f5 c1.f6 c1.f7 c1.f8 c1.f9).2.2.2.2.2.1, .int (ZY.F c0 c1.f0 c1.f1 c1.f2 c1.f3 c1.f4 c1.f5 c1.f6 c1.f7 c1.f8 c1.f9).2.2.2.2.2.2.1, .int (ZY.F c0 c1.f0 c1.f1 c1.f2 c1.f3 c1.f4 c1.f5 c1.f6 c1.f7 c1.f8 c1.f9).2.2.2.2.2.2.2.1, .int (ZY.F c0 c1.f0 c1.f1 c1.f2 c1.f3 c1.f4 c1.f5 c1.f6 c1.f7 c1.f8 c1.f9).2.2.2.2.2.2.2.2.1, .bool (ZY.F c0 c1.f0 c1.f1 c1.f2 c1.f3 c1.f4 c1.f5 c1.f6 c1.f7 c1.f8 c1.f9).2.2.2.2.2.2.2.2.2])
 | _ => none
theorem ZY.walk (a0 d0 d1 d2 d3 d4 d5 d6 d7 d8 : Int) (d9 : Bool) : Walk 62 [(88, Z2.g), (89, Z3.g), (90, Z4.g)] 5 900 [.int a0, .agg [.int d0, .int d1, .int d2, .int d3, .int d4, .int d5, .int d6, .int d7, .int d8, .bool d9]] ((.agg [.int (ZY.F a0 d0 d1 d2 d3 d4 d5 d6 d7 d8 d9).1, .int (ZY.F a0 d0 d1 d2 d3 d4 d5 d6 d7 d8 d9).2.1, .int (ZY.F a0 d0 d1 d2 d3 d4 d5 d6 d7 d8 d9).2.2.1, .int (ZY.F a0 d0 d1 d2 d3 d4 d5 d6 d7 d8 d9).2.2.2.1, .int (ZY.F a0 d0 d1 d2 d3 d4 d5 d6 d7 d8 d9).2.2.2.2.1, .int (ZY.F a0 d0 d1 d2 d3 d4 d5 d6 d7 d8 d9).2.2.2.2.2.1, .int (ZY.F a0 d0 d1 d2 d3 d4 d5 d6 d7 d8 d9).2.2.2.2.2.2.1, .int (ZY.F a0 d0 d1 d2 d3 d4 d5 d6 d7 d8 d9).2.2.2.2.2.2.2.1, .int (ZY.F a0 d0 d1 d2 d3 d4 d5 d6 d7 d8 d9).2.2.2.2.2.2.2.2.1, .bool (ZY.F a0 d0 d1 d2 d3 d4 d5 d6 d7 d8 d9).2.2.2.2.2.2.2.2.2] : AV).v R0) := by
 refine w1 fun v O hv hO => ⟨_, _, Tryz.func62, rfl, by kernel_rfl, Nat.le_of_ble_eq_true rfl, ?_⟩
 unfold Z2.g
 generalize hf0 : Z2.F = f0
 unfold Z3.g
 generalize hf1 : Z3.F = f1
 unfold Z4.g
 generalize hf2 : Z4.F = f2
 (try cbv)
 repeat' (apply And.intro <;> (try intro h) <;> (try cbv))
 all_goals (subst hv hO; subst hf0; subst hf1; subst hf2; (try dsimp only [std] at *); (try simp only [nt_] at *)) <;> first | rfl | (simp only [ZY.F, ZY.f, AV.v, AV.vs, Z2.tot, Z3.tot, Z4.tot, nv_, reduceIte, *]; done) | (simp_all (maxSteps := 1000000) [std, ZY.F, ZY.f, AV.v, AV.vs, Z2.tot, Z3.tot, Z4.tot] <;> (repeat' split) <;> first | rfl | omega | (simp_all; done) | (simp_all; omega))
theorem ZY.fn : Fn 62 ZY.g := by
 refine ⟨⟨_, Tryz.func62, rfl, rfl⟩, fun R l v hg w => ?_⟩
 unfold ZY.g at hg
 split at hg
 ·rename_i x0 x1
  obtain ⟨c0, e0, hg⟩ := Option.bind_eq_some_iff.1 hg
  obtain ⟨c1, e1, hg⟩ := Option.bind_eq_some_iff.1 hg
  injection hg with hg
  subst hg
  have := (ZY.walk c0 c1.f0 c1.f1 c1.f2 c1.f3 c1.f4 c1.f5 c1.f6 c1.f7 c1.f8 c1.f9).calls (all_cons Z2.fn (all_cons Z3.fn (all_cons Z4.fn ZW))) w
  simpa only [AV.vs, AV.v, clA, i1_v R e0, dC_v R e1] using this
 ·cases hg
def Z5.f (a0 a1 : Int) : Option (TC) := if a0 = 1 then (some (a0, a1, 0, 0, 0, 0, 0, 0, 0, false)) else (if a0 = 2 then (some (a0, 0, 0, 0, 0, 0, 0, 0, 0, false)) else (some (0, 0, 0, 0, 0, 0, 0, 0, 0, false)))
def Z5.F (a0 a1 : Int) : TC := (Z5.f a0 a1).getD (0, 0, 0, 0, 0, 0, 0, 0, 0, false)
theorem Z5.f.isS (a0 a1 : Int) : ∃ r, Z5.f a0 a1 = some r := by
 unfold Z5.f
 repeat' (first | exact ⟨_, rfl⟩ | (exfalso; omega) | split)
theorem Z5.tot (a0 a1 : Int) : Z5.f a0 a1 = some (Z5.F a0 a1) := by
 obtain ⟨r, h⟩ := Z5.f.isS a0 a1
 unfold Z5.F
 rw [h]
 rfl
def Z5.g : List AV → Option AV
 | [x0, x1] => (i1 x0).bind fun c0 => (i1 x1).bind fun c1 => some (.agg [.int (Z5.F c0 c1).1, .int (Z5.F c0 c1).2.1, .int (Z5.F c0 c1).2.2.1, .int (Z5.F c0 c1).2.2.2.1, .int (Z5.F c0 c1).2.2.2.2.1, .int (Z5.F c0 c1).2.2.2.2.2.1, .int (Z5.F c0 c1).2.2.2.2.2.2.1, .int (Z5.F c0 c1).2.2.2.2.2.2.2.1, .int (Z5.F c0 c1).2.2.2.2.2.2.2.2.1, .bool (Z5.F c0 c1).2.2.2.2.2.2.2.2.2])
 | _ => none
theorem Z5.walk (a0 a1 : Int) : Walk 104 [] 5 900 [.int a0, .int a1] ((.agg [.int (Z5.F a0 a1).1, .int (Z5.F a0 a1).2.1, .int (Z5.F a0 a1).2.2.1, .int (Z5.F a0 a1).2.2.2.1, .int (Z5.F a0 a1).2.2.2.2.1, .int (Z5.F a0 a1).2.2.2.2.2.1, .int (Z5.F a0 a1).2.2.2.2.2.2.1, .int (Z5.F a0 a1).2.2.2.2.2.2.2.1, .int (Z5.F a0 a1).2.2.2.2.2.2.2.2.1, .bool (Z5.F a0 a1).2.2.2.2.2.2.2.2.2] : AV).v R0) := by
 refine w1 fun v O hv hO => ⟨_, _, Tryz.func104, rfl, by kernel_rfl, Nat.le_of_ble_eq_true rfl, ?_⟩
 (try cbv)
 repeat' (apply And.intro <;> (try intro h) <;> (try cbv))
 all_goals (subst hv hO; (try dsimp only [std] at *); (try simp only [nt_] at *)) <;> first | rfl | (simp only [Z5.F, Z5.f, AV.v, AV.vs, nv_, reduceIte, *]; done) | (simp_all (maxSteps := 1000000) [std, Z5.F, Z5.f, AV.v, AV.vs] <;> (repeat' split) <;> first | rfl | omega | (simp_all; done) | (simp_all; omega))
theorem Z5.fn : Fn 104 Z5.g := by
 refine ⟨⟨_, Tryz.func104, rfl, rfl⟩, fun R l v hg w => ?_⟩
 unfold Z5.g at hg
 split at hg
 ·rename_i x0 x1
  obtain ⟨c0, e0, hg⟩ := Option.bind_eq_some_iff.1 hg
  obtain ⟨c1, e1, hg⟩ := Option.bind_eq_some_iff.1 hg
  injection hg with hg
  subst hg
  have := (Z5.walk c0 c1).calls ZW w
  simpa only [AV.vs, AV.v, clA, i1_v R e0, i1_v R e1] using this
 ·cases hg
def Z6.f (a0 a1 : Int) : Option (TC) := if a0 = 1 then (some (a0, a1, 0, 0, 0, 0, 0, 0, 0, false)) else (if a0 = 2 then (some (a0, 0, 0, 0, 0, 0, 0, 0, 0, false)) else (some (0, 0, 0, 0, 0, 0, 0, 0, 0, false)))
def Z6.F (a0 a1 : Int) : TC := (Z6.f a0 a1).getD (0, 0, 0, 0, 0, 0, 0, 0, 0, false)
theorem Z6.f.isS (a0 a1 : Int) : ∃ r, Z6.f a0 a1 = some r := by
 unfold Z6.f
 repeat' (first | exact ⟨_, rfl⟩ | (exfalso; omega) | split)
theorem Z6.tot (a0 a1 : Int) : Z6.f a0 a1 = some (Z6.F a0 a1) := by
 obtain ⟨r, h⟩ := Z6.f.isS a0 a1
 unfold Z6.F
 rw [h]
 rfl
def Z6.g : List AV → Option AV
 | [x0, x1] => (i1 x0).bind fun c0 => (i1 x1).bind fun c1 => some (.agg [.int (Z6.F c0 c1).1, .int (Z6.F c0 c1).2.1, .int (Z6.F c0 c1).2.2.1, .int (Z6.F c0 c1).2.2.2.1, .int (Z6.F c0 c1).2.2.2.2.1, .int (Z6.F c0 c1).2.2.2.2.2.1, .int (Z6.F c0 c1).2.2.2.2.2.2.1, .int (Z6.F c0 c1).2.2.2.2.2.2.2.1, .int (Z6.F c0 c1).2.2.2.2.2.2.2.2.1, .bool (Z6.F c0 c1).2.2.2.2.2.2.2.2.2])
 | _ => none
theorem Z6.walk (a0 a1 : Int) : Walk 105 [] 5 900 [.int a0, .int a1] ((.agg [.int (Z6.F a0 a1).1, .int (Z6.F a0 a1).2.1, .int (Z6.F a0 a1).2.2.1, .int (Z6.F a0 a1).2.2.2.1, .int (Z6.F a0 a1).2.2.2.2.1, .int (Z6.F a0 a1).2.2.2.2.2.1, .int (Z6.F a0 a1).2.2.2.2.2.2.1, .int (Z6.F a0 a1).2.2.2.2.2.2.2.1, .int (Z6.F a0 a1).2.2.2.2.2.2.2.2.1, .bool (Z6.F a0 a1).2.2.2.2.2.2.2.2.2] : AV).v R0) := by
 refine w1 fun v O hv hO => ⟨_, _, Tryz.func105, rfl, by kernel_rfl, Nat.le_of_ble_eq_true rfl, ?_⟩
 (try cbv)
 repeat' (apply And.intro <;> (try intro h) <;> (try cbv))
 all_goals (subst hv hO; (try dsimp only [std] at *); (try simp only [nt_] at *)) <;> first | rfl | (simp only [Z6.F, Z6.f, AV.v, AV.vs, nv_, reduceIte, *]; done) | (simp_all (maxSteps := 1000000) [std, Z6.F, Z6.f, AV.v, AV.vs] <;> (repeat' split) <;> first | rfl | omega | (simp_all; done) | (simp_all; omega))
theorem Z6.fn : Fn 105 Z6.g := by
 refine ⟨⟨_, Tryz.func105, rfl, rfl⟩, fun R l v hg w => ?_⟩
 unfold Z6.g at hg
 split at hg
 ·rename_i x0 x1
  obtain ⟨c0, e0, hg⟩ := Option.bind_eq_some_iff.1 hg
  obtain ⟨c1, e1, hg⟩ := Option.bind_eq_some_iff.1 hg
  injection hg with hg
  subst hg
  have := (Z6.walk c0 c1).calls ZW w
  simpa only [AV.vs, AV.v, clA, i1_v R e0, i1_v R e1] using this
 ·cases hg
def Z7.f (a0 a1 a2 : Int) : Option (TC) := if a0 = 1 then (some (a0, a1, a2, 0, 0, 0, 0, 0, 0, false)) else (if a0 = 2 then (some (a0, a1, 0, 0, 0, 0, 0, 0, 0, false)) else (if a0 = 3 then (some (a0, a1, 0, 0, 0, 0, 0, 0, 0, false)) else (some (0, 0, 0, 0, 0, 0, 0, 0, 0, false))))
def Z7.F (a0 a1 a2 : Int) : TC := (Z7.f a0 a1 a2).getD (0, 0, 0, 0, 0, 0, 0, 0, 0, false)
theorem Z7.f.isS (a0 a1 a2 : Int) : ∃ r, Z7.f a0 a1 a2 = some r := by
 unfold Z7.f
 repeat' (first | exact ⟨_, rfl⟩ | (exfalso; omega) | split)
theorem Z7.tot (a0 a1 a2 : Int) : Z7.f a0 a1 a2 = some (Z7.F a0 a1 a2) := by
 obtain ⟨r, h⟩ := Z7.f.isS a0 a1 a2
 unfold Z7.F
 rw [h]
 rfl
def Z7.g : List AV → Option AV
 | [x0, x1, x2] => (i1 x0).bind fun c0 => (i1 x1).bind fun c1 => (i1 x2).bind fun c2 => some (.agg [.int (Z7.F c0 c1 c2).1, .int (Z7.F c0 c1 c2).2.1, .int (Z7.F c0 c1 c2).2.2.1, .int (Z7.F c0 c1 c2).2.2.2.1, .int (Z7.F c0 c1 c2).2.2.2.2.1, .int (Z7.F c0 c1 c2).2.2.2.2.2.1, .int (Z7.F c0 c1 c2).2.2.2.2.2.2.1, .int (Z7.F c0 c1 c2).2.2.2.2.2.2.2.1, .int (Z7.F c0 c1 c2).2.2.2.2.2.2.2.2.1, .bool (Z7.F c0 c1 c2).2.2.2.2.2.2.2.2.2])
 | _ => none
theorem Z7.walk (a0 a1 a2 : Int) : Walk 106 [] 5 900 [.int a0, .int a1, .int a2] ((.agg [.int (Z7.F a0 a1 a2).1, .int (Z7.F a0 a1 a2).2.1, .int (Z7.F a0 a1 a2).2.2.1, .int (Z7.F a0 a1 a2).2.2.2.1, .int (Z7.F a0 a1 a2).2.2.2.2.1, .int (Z7.F a0 a1 a2).2.2.2.2.2.1, .int (Z7.F a0 a1 a2).2.2.2.2.2.2.1, .int (Z7.F a0 a1 a2).2.2.2.2.2.2.2.1, .int (Z7.F a0 a1 a2).2.2.2.2.2.2.2.2.1, .bool (Z7.F a0 a1 a2).2.2.2.2.2.2.2.2.2] : AV).v R0) := by
 refine w1 fun v O hv hO => ⟨_, _, Tryz.func106, rfl, by kernel_rfl, Nat.le_of_ble_eq_true rfl, ?_⟩
 (try cbv)
 repeat' (apply And.intro <;> (try intro h) <;> (try cbv))
 all_goals (subst hv hO; (try dsimp only [std] at *); (try simp only [nt_] at *)) <;> first | rfl | (simp only [Z7.F, Z7.f, AV.v, AV.vs, nv_, reduceIte, *]; done) | (simp_all (maxSteps := 1000000) [std, Z7.F, Z7.f, AV.v, AV.vs] <;> (repeat' split) <;> first | rfl | omega | (simp_all; done) | (simp_all; omega))
theorem Z7.fn : Fn 106 Z7.g := by
 refine ⟨⟨_, Tryz.func106, rfl, rfl⟩, fun R l v hg w => ?_⟩
 unfold Z7.g at hg
 split at hg
 ·rename_i x0 x1 x2
  obtain ⟨c0, e0, hg⟩ := Option.bind_eq_some_iff.1 hg
  obtain ⟨c1, e1, hg⟩ := Option.bind_eq_some_iff.1 hg
  obtain ⟨c2, e2, hg⟩ := Option.bind_eq_some_iff.1 hg
  injection hg with hg
  subst hg
  have := (Z7.walk c0 c1 c2).calls ZW w
  simpa only [AV.vs, AV.v, clA, i1_v R e0, i1_v R e1, i1_v R e2] using this
 ·cases hg
def Zad.f (a0 d0 d1 d2 d3 d4 d5 d6 d7 d8 : Int) (d9 : Bool) : Option (TC) := if a0 = 1 then ((Z5.f d0 d1).bind fun a7 => (some (a7.1, a7.2.1, a7.2.2.1, a7.2.2.2.1, a7.2.2.2.2.1, a7.2.2.2.2.2.1, a7.2.2.2.2.2.2.1, a7.2.2.2.2.2.2.2.1, a7.2.2.2.2.2.2.2.2.1, a7.2.2.2.2.2.2.2.2.2))) else (if a0 = 2 then ((Z6.f d0 d1).bind fun a8 => (some (a8.1, a8.2.1, a8.2.2.1, a8.2.2.2.1, a8.2.2.2.2.1, a8.2.2.2.2.2.1, a8.2.2.2.2.2.2.1, a8.2.2.2.2.2.2.2.1, a8.2.2.2.2.2.2.2.2.1, a8.2.2.2.2.2.2.2.2.2))) else ((Z7.f d0 d1 d2).bind fun a9 => (some (a9.1, a9.2.1, a9.2.2.1, a9.2.2.2.1, a9.2.2.2.2.1, a9.2.2.2.2.2.1, a9.2.2.2.2.2.2.1, a9.2.2.2.2.2.2.2.1, a9.2.2.2.2.2.2.2.2.1, a9.2.2.2.2.2.2.2.2.2))))
def Zad.F (a0 d0 d1 d2 d3 d4 d5 d6 d7 d8 : Int) (d9 : Bool) : TC := (Zad.f a0 d0 d1 d2 d3 d4 d5 d6 d7 d8 d9).getD (0, 0, 0, 0, 0, 0, 0, 0, 0, false)
theorem Zad.f.isS (a0 d0 d1 d2 d3 d4 d5 d6 d7 d8 : Int) (d9 : Bool) : ∃ r, Zad.f a0 d0 d1 d2 d3 d4 d5 d6 d7 d8 d9 = some r := by
 unfold Zad.f
 (try simp only [Z5.tot, Z6.tot, Z7.tot, Option.bind_some])
 repeat' (first | exact ⟨_, rfl⟩ | (exfalso; omega) | split)
theorem Zad.tot (a0 d0 d1 d2 d3 d4 d5 d6 d7 d8 : Int) (d9 : Bool) : Zad.f a0 d0 d1 d2 d3 d4 d5 d6 d7 d8 d9 = some (Zad.F a0 d0 d1 d2 d3 d4 d5 d6 d7 d8 d9) := by
 obtain ⟨r, h⟩ := Zad.f.isS a0 d0 d1 d2 d3 d4 d5 d6 d7 d8 d9
 unfold Zad.F
 rw [h]
 rfl
def Zad.g : List AV → Option AV
 | [x0, x1] => (i1 x0).bind fun c0 => (dC x1).bind fun c1 => some (.agg [.int (Zad.F c0 c1.f0 c1.f1 c1.f2 c1.f3 c1.f4 c1.f5 c1.f6 c1.f7 c1.f8 c1.f9).1, .int (Zad.F c0 c1.f0 c1.f1 c1.f2 c1.f3 c1.f4 c1.f5 c1.f6 c1.f7 c1.f8 c1.f9).2.1, .int (Zad.F c0 c1.f0 c1.f1 c1.f2 c1.f3 c1.f4 c1.f5 c1.f6 c1.f7 c1.f8 c1.f9).2.2.1, .int (Zad.F c0 c1.f0 c1.f1 c1.f2 c1.f3 c1.f4 c1.f5 c1.f6 c1.f7 c1.f8 c1.f9).2.2.2.1, .int (Zad.F c0 c1.f0 c1.f1 c1.f2 c1.f3 c1.f4 c1.f5 c1.f6 c1.f7 c1.f8 c1.f9).2.2.2.2.1, .int (Zad.F c0 c1.f0 c1.f1 c1.f2 c1.f3 c1.f4 c1.f5 c1.f6 c1.f7 c1.f8 c1.f9).2.2.2.2.2.1, .int (Zad.F c0 c1.f0 c1.f1 c1.f2 c1.f3 c1.f4 c1.f5 c1.f6 c1.f7 c1.f8 c1.f9).2.2.2.2.2.2.1, .int (Zad.F c0 c1.f0 c1.f1 c1.f2 c1.f3 c1.f4 c1.f5 c1.f6 c1.f7 c1.f8 c1.f9).2.2.2.2.2.2.2.1, .int (Zad.F c0 c1.f0 c1.f1 c1.f2 c1.f3 c1.f4 c1.f5 c1.f6 c1.f7 c1.f8 c1.f9).2.2.2.2.2.2.2.2.1, .bool (Zad.F c0 c1.f0 c1.f1 c1.f2 c1.f3 c1.f4 c1.f5 c1.f6 c1.f7 c1.f8 c1.f9).2.2.2.2.2.2.2.2.2])
 | _ => none
theorem Zad.walk (a0 d0 d1 d2 d3 d4 d5 d6 d7 d8 : Int) (d9 : Bool) : Walk 83 [(104, Z5.g), (105, Z6.g), (106, Z7.g)] 5 900 [.int a0, .agg [.int d0, .int d1, .int d2, .int d3, .int d4, .int d5, .int d6, .int d7, .int d8, .bool d9]] ((.agg [.int (Zad.F a0 d0 d1 d2 d3 d4 d5 d6 d7 d8 d9).1, .int (Zad.F a0 d0 d1 d2 d3 d4 d5 d6 d7 d8 d9).2.1, .int (Zad.F a0 d0 d1 d2 d3 d4 d5 d6 d7 d8 d9).2.2.1, .int (Zad.F a0 d0 d1 d2 d3 d4 d5 d6 d7 d8 d9).2.2.2.1, .int (Zad.F a0 d0 d1 d2 d3 d4 d5 d6 d7 d8 d9).2.2.2.2.1, .int (Zad.F a0 d0 d1 d2 d3 d4 d5 d6 d7 d8 d9).2.2.2.2.2.1, .int (Zad.F a0 d0 d1 d2 d3 d4 d5 d6 d7 d8 d9).2.2.2.2.2.2.1, .int (Zad.F a0 d0 d1 d2 d3 d4 d5 d6 d7 d8 d9).2.2.2.2.2.2.2.1, .int (Zad.F a0 d0 d1 d2 d3 d4 d5 d6 d7 d8 d9).2.2.2.2.2.2.2.2.1, .bool (Zad.F a0 d0 d1 d2 d3 d4 d5 d6 d7 d8 d9).2.2.2.2.2.2.2.2.2] : AV).v R0) := by
 refine w1 fun v O hv hO => ⟨_, _, Tryz.func83, rfl, by kernel_rfl, Nat.le_of_ble_eq_true rfl, ?_⟩
 unfold Z5.g
 generalize hf0 : Z5.F = f0
 unfold Z6.g
 generalize hf1 : Z6.F = f1
 unfold Z7.g
 generalize hf2 : Z7.F = f2
 (try cbv)
 repeat' (apply And.intro <;> (try intro h) <;> (try cbv))
 all_goals (subst hv hO; subst hf0; subst hf1; subst hf2; (try dsimp only [std] at *); (try simp only [nt_] at *)) <;> first | rfl | (simp only [Zad.F, Zad.f, AV.v, AV.vs, Z5.tot, Z6.tot, Z7.tot, nv_, reduceIte, *]; done) | (simp_all (maxSteps := 1000000) [std, Zad.F, Zad.f, AV.v, AV.vs, Z5.tot, Z6.tot, Z7.tot] <;> (repeat' split) <;> first | rfl | omega | (simp_all; done) | (simp_all; omega))
theorem Zad.fn : Fn 83 Zad.g := by
 refine ⟨⟨_, Tryz.func83, rfl, rfl⟩, fun R l v hg w => ?_⟩
 unfold Zad.g at hg
 split at hg
 ·rename_i x0 x1
  obtain ⟨c0, e0, hg⟩ := Option.bind_eq_some_iff.1 hg
  obtain ⟨c1, e1, hg⟩ := Option.bind_eq_some_iff.1 hg
  injection hg with hg
  subst hg
  have := (Zad.walk c0 c1.f0 c1.f1 c1.f2 c1.f3 c1.f4 c1.f5 c1.f6 c1.f7 c1.f8 c1.f9).calls (all_cons Z5.fn (all_cons Z6.fn (all_cons Z7.fn ZW))) w
  simpa only [AV.vs, AV.v, clA, i1_v R e0, dC_v R e1] using this
 ·cases hg
end Go.Proofs.YtgghglocfdcegaaGreat.Xec
