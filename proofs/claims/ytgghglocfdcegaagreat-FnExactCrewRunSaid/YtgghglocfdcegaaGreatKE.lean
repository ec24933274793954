/- Part E of the proof of FnExactCrewStep and FnExactCrewRun (wip/xec, pack.py). No condition. -/
import Derived.Test.YtgghglocfdcegaaGreatKC
namespace Go.Proofs.YtgghglocfdcegaaGreat.Xec
open Go Go.RowKit Go.Proofs.YtgghglocfdcegaaGreat.PFnExactCrewRun Go.Proofs.YtgghglocfdcegaaGreatW.PrintWords
set_option linter.unusedVariables false
set_option linter.unusedSimpArgs false
set_option maxRecDepth 100000
set_option maxHeartbeats 16000000
theorem w1 {f : FuncId} {dep n : Nat} {L : List (FuncId × (List AV → Option AV))} {args : List AV} {v : Value} (h : ∀ u O, u = v → O = std → ∃ fn c, Tryz.prog.funcs[f]? = some fn ∧ fn.body = some c ∧ ZaB c = true ∧ args.length ≤ fn.ntmps ∧ (seg (mkX O L) n [.code c] (ZaY dep fn.ntmps (Zbo args) [])).holds (Ans (mkX O L) fn.results.toList u)) : Walk f L dep n args v := by
 obtain ⟨fn, c, h1, h2, h3, h4, -⟩ := h v std rfl rfl
 refine ⟨fn, c, h1, h2, h3, h4, fun O hO => ?_⟩
 obtain ⟨fn', c', h1', h2', -, -, h5⟩ := h v O rfl hO
 rw [h1] at h1'
 injection h1' with e
 subst e
 rw [h2] at h2'
 injection h2' with e
 subst e
 exact h5
def impl_within.f (a0 a1 a2 : Int) : Option (Bool) := if a0 ≥ a1 then (some (decide (a0 ≤ a2))) else (some false)
def impl_within.F (a0 a1 a2 : Int) : Bool := (impl_within.f a0 a1 a2).getD (false)
theorem impl_within.f.isS (a0 a1 a2 : Int) : ∃ r, impl_within.f a0 a1 a2 = some r := by
 unfold impl_within.f
 repeat' (first | exact ⟨_, rfl⟩ | (exfalso; omega) | split)
theorem impl_within.tot (a0 a1 a2 : Int) : impl_within.f a0 a1 a2 = some (impl_within.F a0 a1 a2) := by
 obtain ⟨r, h⟩ := impl_within.f.isS a0 a1 a2
 unfold impl_within.F
 rw [h]
 rfl
def impl_within.g : List AV → Option AV
 | [x0, x1, x2] => (i1 x0).bind fun c0 => (i1 x1).bind fun c1 => (i1 x2).bind fun c2 => some (.bool (impl_within.F c0 c1 c2))
 | _ => none
theorem impl_within.walk (a0 a1 a2 : Int) : Walk 82 [] 4 900 [.int a0, .int a1, .int a2] ((.bool (impl_within.F a0 a1 a2) : AV).v R0) := by
 refine w1 fun v O hv hO => ⟨_, _, Tryz.func82, rfl, by kernel_rfl, Nat.le_of_ble_eq_true rfl, ?_⟩
 (try cbv)
 repeat' (apply And.intro <;> (try intro h) <;> (try cbv))
 all_goals (subst hv hO; (try dsimp only [std] at *); (try simp only [nt_] at *)) <;> first | rfl | (simp only [impl_within.F, impl_within.f, AV.v, AV.vs, nv_, reduceIte, *]; done) | (simp_all (maxSteps := 1000000) [std, impl_within.F, impl_within.f, AV.v, AV.vs] <;> (repeat' split) <;> first | rfl | omega | (simp_all; done) | (simp_all; omega))
theorem impl_within.fn : Fn 82 impl_within.g := by
 refine ⟨⟨_, Tryz.func82, rfl, rfl⟩, fun R l v hg w => ?_⟩
 unfold impl_within.g at hg
 split at hg
 ·rename_i x0 x1 x2
  obtain ⟨c0, e0, hg⟩ := Option.bind_eq_some_iff.1 hg
  obtain ⟨c1, e1, hg⟩ := Option.bind_eq_some_iff.1 hg
  obtain ⟨c2, e2, hg⟩ := Option.bind_eq_some_iff.1 hg
  injection hg with hg
  subst hg
  have := (impl_within.walk c0 c1 c2).calls ZX w
  simpa only [AV.vs, AV.v, clA, i1_v R e0, i1_v R e1, i1_v R e2] using this
 ·cases hg
def Zy.f (a0 a1 a2 : Int) : Option (Bool) := if a0 ≥ a1 then (some (decide (a0 ≤ a2))) else (some false)
def Zy.F (a0 a1 a2 : Int) : Bool := (Zy.f a0 a1 a2).getD (false)
theorem Zy.f.isS (a0 a1 a2 : Int) : ∃ r, Zy.f a0 a1 a2 = some r := by
 unfold Zy.f
 repeat' (first | exact ⟨_, rfl⟩ | (exfalso; omega) | split)
theorem Zy.tot (a0 a1 a2 : Int) : Zy.f a0 a1 a2 = some (Zy.F a0 a1 a2) := by
 obtain ⟨r, h⟩ := Zy.f.isS a0 a1 a2
 unfold Zy.F
 rw [h]
 rfl
def Zy.g : List AV → Option AV
 | [x0, x1, x2] => (i1 x0).bind fun c0 => (i1 x1).bind fun c1 => (i1 x2).bind fun c2 => some (.bool (Zy.F c0 c1 c2))
 | _ => none
theorem Zy.walk (a0 a1 a2 : Int) : Walk 68 [] 4 900 [.int a0, .int a1, .int a2] ((.bool (Zy.F a0 a1 a2) : AV).v R0) := by
 refine w1 fun v O hv hO => ⟨_, _, Tryz.func68, rfl, by kernel_rfl, Nat.le_of_ble_eq_true rfl, ?_⟩
 (try cbv)
 repeat' (apply And.intro <;> (try intro h) <;> (try cbv))
 all_goals (subst hv hO; (try dsimp only [std] at *); (try simp only [nt_] at *)) <;> first | rfl | (simp only [Zy.F, Zy.f, AV.v, AV.vs, nv_, reduceIte, *]; done) | (simp_all (maxSteps := 1000000) [std, Zy.F, Zy.f, AV.v, AV.vs] <;> (repeat' split) <;> first | rfl | omega | (simp_all; done) | (simp_all; omega))
theorem Zy.fn : Fn 68 Zy.g := by
 refine ⟨⟨_, Tryz.func68, rfl, rfl⟩, fun R l v hg w => ?_⟩
 unfold Zy.g at hg
 split at hg
 ·rename_i x0 x1 x2
  obtain ⟨c0, e0, hg⟩ := Option.bind_eq_some_iff.1 hg
  obtain ⟨c1, e1, hg⟩ := Option.bind_eq_some_iff.1 hg
  obtain ⟨c2, e2, hg⟩ := Option.bind_eq_some_iff.1 hg
  injection hg with hg
  subst hg
  have := (Zy.walk c0 c1 c2).calls ZX w
  simpa only [AV.vs, AV.v, clA, i1_v R e0, i1_v R e1, i1_v R e2] using this
 ·cases hg
def Zad.f (a0 : Int) : Option (Int × Int × Bool) := if a0 < 0 then (some (0, 0, false)) else (if (wrap64 (Int.tdiv a0 1048576)) > 1073741823 then (some (0, 0, false)) else (some (wrap64 (Int.tdiv a0 1048576), Int.tmod a0 1048576, true)))
def Zad.F (a0 : Int) : Int × Int × Bool := (Zad.f a0).getD (0, 0, false)
theorem Zad.f.isS (a0 : Int) : ∃ r, Zad.f a0 = some r := by
 unfold Zad.f
 repeat' (first | exact ⟨_, rfl⟩ | (exfalso; omega) | split)
theorem Zad.tot (a0 : Int) : Zad.f a0 = some (Zad.F a0) := by
 obtain ⟨r, h⟩ := Zad.f.isS a0
 unfold Zad.F
 rw [h]
 rfl
def Zad.g : List AV → Option AV
 | [x0] => (i1 x0).bind fun c0 => some (.tup [.int (Zad.F c0).1, .int (Zad.F c0).2.1, .bool (Zad.F c0).2.2])
 | _ => none
theorem Zad.walk (a0 : Int) : Walk 97 [] 5 900 [.int a0] ((.tup [.int (Zad.F a0).1, .int (Zad.F a0).2.1, .bool (Zad.F a0).2.2] : AV).v R0) := by
 refine w1 fun v O hv hO => ⟨_, _, Tryz.func97, rfl, by kernel_rfl, Nat.le_of_ble_eq_true rfl, ?_⟩
 (try cbv)
 repeat' (apply And.intro <;> (try intro h) <;> (try cbv))
 all_goals (subst hv hO; (try dsimp only [std] at *); (try simp only [nt_] at *)) <;> first | rfl | (simp only [Zad.F, Zad.f, AV.v, AV.vs, nv_, reduceIte, *]; done) | (simp_all (maxSteps := 1000000) [std, Zad.F, Zad.f, AV.v, AV.vs] <;> (repeat' split) <;> first | rfl | omega | (simp_all; done) | (simp_all; omega))
theorem Zad.fn : Fn 97 Zad.g := by
 refine ⟨⟨_, Tryz.func97, rfl, rfl⟩, fun R l v hg w => ?_⟩
 unfold Zad.g at hg
 split at hg
 ·rename_i x0
  obtain ⟨c0, e0, hg⟩ := Option.bind_eq_some_iff.1 hg
  injection hg with hg
  subst hg
  have := (Zad.walk c0).calls ZX w
  simpa only [AV.vs, AV.v, clA, i1_v R e0] using this
 ·cases hg
def Zae.f (a0 : Int) : Option (Int × Int × Bool) := if a0 < 0 then (some (0, 0, false)) else (if (wrap64 (Int.tdiv a0 1048576)) > 1073741823 then (some (0, 0, false)) else (some (wrap64 (Int.tdiv a0 1048576), Int.tmod a0 1048576, true)))
def Zae.F (a0 : Int) : Int × Int × Bool := (Zae.f a0).getD (0, 0, false)
theorem Zae.f.isS (a0 : Int) : ∃ r, Zae.f a0 = some r := by
 unfold Zae.f
 repeat' (first | exact ⟨_, rfl⟩ | (exfalso; omega) | split)
theorem Zae.tot (a0 : Int) : Zae.f a0 = some (Zae.F a0) := by
 obtain ⟨r, h⟩ := Zae.f.isS a0
 unfold Zae.F
 rw [h]
 rfl
def Zae.g : List AV → Option AV
 | [x0] => (i1 x0).bind fun c0 => some (.tup [.int (Zae.F c0).1, .int (Zae.F c0).2.1, .bool (Zae.F c0).2.2])
 | _ => none
theorem Zae.walk (a0 : Int) : Walk 120 [] 5 900 [.int a0] ((.tup [.int (Zae.F a0).1, .int (Zae.F a0).2.1, .bool (Zae.F a0).2.2] : AV).v R0) := by
 refine w1 fun v O hv hO => ⟨_, _, Tryz.func120, rfl, by kernel_rfl, Nat.le_of_ble_eq_true rfl, ?_⟩
 (try cbv)
 repeat' (apply And.intro <;> (try intro h) <;> (try cbv))
 all_goals (subst hv hO; (try dsimp only [std] at *); (try simp only [nt_] at *)) <;> first | rfl | (simp only [Zae.F, Zae.f, AV.v, AV.vs, nv_, reduceIte, *]; done) | (simp_all (maxSteps := 1000000) [std, Zae.F, Zae.f, AV.v, AV.vs] <;> (repeat' split) <;> first | rfl | omega | (simp_all; done) | (simp_all; omega))
theorem Zae.fn : Fn 120 Zae.g := by
 refine ⟨⟨_, Tryz.func120, rfl, rfl⟩, fun R l v hg w => ?_⟩
 unfold Zae.g at hg
 split at hg
 ·rename_i x0
  obtain ⟨c0, e0, hg⟩ := Option.bind_eq_some_iff.1 hg
  injection hg with hg
  subst hg
  have := (Zae.walk c0).calls ZX w
  simpa only [AV.vs, AV.v, clA, i1_v R e0] using this
 ·cases hg
def Zat.f (a0 a1 : Int) : Option (Int × Bool) := (Zy.f a0 0 1073741823).bind fun c5 => (if c5 = true then ((Zy.f a1 0 1048575).bind fun c6 => (if c6 = true then (some (wrap64 ((wrap64 (a0 * 1048576)) + a1), true)) else (some (0, false)))) else (some (0, false)))
def Zat.F (a0 a1 : Int) : Int × Bool := (Zat.f a0 a1).getD (0, false)
theorem Zat.f.isS (a0 a1 : Int) : ∃ r, Zat.f a0 a1 = some r := by
 unfold Zat.f
 (try simp only [Zy.tot, Option.bind_some])
 repeat' (first | exact ⟨_, rfl⟩ | (exfalso; omega) | split)
theorem Zat.tot (a0 a1 : Int) : Zat.f a0 a1 = some (Zat.F a0 a1) := by
 obtain ⟨r, h⟩ := Zat.f.isS a0 a1
 unfold Zat.F
 rw [h]
 rfl
def Zat.g : List AV → Option AV
 | [x0, x1] => (i1 x0).bind fun c0 => (i1 x1).bind fun c1 => some (.tup [.int (Zat.F c0 c1).1, .bool (Zat.F c0 c1).2])
 | _ => none
theorem Zat.walk (a0 a1 : Int) : Walk 93 [(68, Zy.g)] 5 900 [.int a0, .int a1] ((.tup [.int (Zat.F a0 a1).1, .bool (Zat.F a0 a1).2] : AV).v R0) := by
 refine w1 fun v O hv hO => ⟨_, _, Tryz.func93, rfl, by kernel_rfl, Nat.le_of_ble_eq_true rfl, ?_⟩
 unfold Zy.g
 generalize hf0 : Zy.F = f0
 (try cbv)
 repeat' (apply And.intro <;> (try intro h) <;> (try cbv))
 all_goals (subst hv hO; subst hf0; (try dsimp only [std] at *); (try simp only [nt_] at *)) <;> first | rfl | (simp only [Zat.F, Zat.f, AV.v, AV.vs, Zy.tot, nv_, reduceIte, *]; done) | (simp_all (maxSteps := 1000000) [std, Zat.F, Zat.f, AV.v, AV.vs, Zy.tot] <;> (repeat' split) <;> first | rfl | omega | (simp_all; done) | (simp_all; omega))
theorem Zat.fn : Fn 93 Zat.g := by
 refine ⟨⟨_, Tryz.func93, rfl, rfl⟩, fun R l v hg w => ?_⟩
 unfold Zat.g at hg
 split at hg
 ·rename_i x0 x1
  obtain ⟨c0, e0, hg⟩ := Option.bind_eq_some_iff.1 hg
  obtain ⟨c1, e1, hg⟩ := Option.bind_eq_some_iff.1 hg
  injection hg with hg
  subst hg
  have := (Zat.walk c0 c1).calls (all_cons Zy.fn ZX) w
  simpa only [AV.vs, AV.v, clA, i1_v R e0, i1_v R e1] using this
 ·cases hg
def Zas.f (a0 a1 : Int) : Option (Int × Bool) := (impl_within.f a0 0 1073741823).bind fun c7 => (if c7 = true then ((impl_within.f a1 0 1048575).bind fun c8 => (if c8 = true then (some (wrap64 ((wrap64 (a0 * 1048576)) + a1), true)) else (some (0, false)))) else (some (0, false)))
def Zas.F (a0 a1 : Int) : Int × Bool := (Zas.f a0 a1).getD (0, false)
theorem Zas.f.isS (a0 a1 : Int) : ∃ r, Zas.f a0 a1 = some r := by
 unfold Zas.f
 (try simp only [impl_within.tot, Option.bind_some])
 repeat' (first | exact ⟨_, rfl⟩ | (exfalso; omega) | split)
theorem Zas.tot (a0 a1 : Int) : Zas.f a0 a1 = some (Zas.F a0 a1) := by
 obtain ⟨r, h⟩ := Zas.f.isS a0 a1
 unfold Zas.F
 rw [h]
 rfl
def Zas.g : List AV → Option AV
 | [x0, x1] => (i1 x0).bind fun c0 => (i1 x1).bind fun c1 => some (.tup [.int (Zas.F c0 c1).1, .bool (Zas.F c0 c1).2])
 | _ => none
theorem Zas.walk (a0 a1 : Int) : Walk 117 [(82, impl_within.g)] 5 900 [.int a0, .int a1] ((.tup [.int (Zas.F a0 a1).1, .bool (Zas.F a0 a1).2] : AV).v R0) := by
 refine w1 fun v O hv hO => ⟨_, _, Tryz.func117, rfl, by kernel_rfl, Nat.le_of_ble_eq_true rfl, ?_⟩
 unfold impl_within.g
 generalize hf0 : impl_within.F = f0
 (try cbv)
 repeat' (apply And.intro <;> (try intro h) <;> (try cbv))
 all_goals (subst hv hO; subst hf0; (try dsimp only [std] at *); (try simp only [nt_] at *)) <;> first | rfl | (simp only [Zas.F, Zas.f, AV.v, AV.vs, impl_within.tot, nv_, reduceIte, *]; done) | (simp_all (maxSteps := 1000000) [std, Zas.F, Zas.f, AV.v, AV.vs, impl_within.tot] <;> (repeat' split) <;> first | rfl | omega | (simp_all; done) | (simp_all; omega))
theorem Zas.fn : Fn 117 Zas.g := by
 refine ⟨⟨_, Tryz.func117, rfl, rfl⟩, fun R l v hg w => ?_⟩
 unfold Zas.g at hg
 split at hg
 ·rename_i x0 x1
  obtain ⟨c0, e0, hg⟩ := Option.bind_eq_some_iff.1 hg
  obtain ⟨c1, e1, hg⟩ := Option.bind_eq_some_iff.1 hg
  injection hg with hg
  subst hg
  have := (Zas.walk c0 c1).calls (all_cons impl_within.fn ZX) w
  simpa only [AV.vs, AV.v, clA, i1_v R e0, i1_v R e1] using this
 ·cases hg
def Zan.f (a0 : Int) : Option (Int) := (Zy.f a0 0 1073741822).bind fun c9 => (if c9 = true then (some (wrap64 (a0 + 1))) else (some 0))
def Zan.F (a0 : Int) : Int := (Zan.f a0).getD (0)
theorem Zan.f.isS (a0 : Int) : ∃ r, Zan.f a0 = some r := by
 unfold Zan.f
 (try simp only [Zy.tot, Option.bind_some])
 repeat' (first | exact ⟨_, rfl⟩ | (exfalso; omega) | split)
theorem Zan.tot (a0 : Int) : Zan.f a0 = some (Zan.F a0) := by
 obtain ⟨r, h⟩ := Zan.f.isS a0
 unfold Zan.F
 rw [h]
 rfl
def Zan.g : List AV → Option AV
 | [x0] => (i1 x0).bind fun c0 => some (.int (Zan.F c0))
 | _ => none
theorem Zan.walk (a0 : Int) : Walk 94 [(68, Zy.g)] 4 900 [.int a0] ((.int (Zan.F a0) : AV).v R0) := by
 refine w1 fun v O hv hO => ⟨_, _, Tryz.func94, rfl, by kernel_rfl, Nat.le_of_ble_eq_true rfl, ?_⟩
 unfold Zy.g
 generalize hf0 : Zy.F = f0
 (try cbv)
 repeat' (apply And.intro <;> (try intro h) <;> (try cbv))
 all_goals (subst hv hO; subst hf0; (try dsimp only [std] at *); (try simp only [nt_] at *)) <;> first | rfl | (simp only [Zan.F, Zan.f, AV.v, AV.vs, Zy.tot, nv_, reduceIte, *]; done) | (simp_all (maxSteps := 1000000) [std, Zan.F, Zan.f, AV.v, AV.vs, Zy.tot] <;> (repeat' split) <;> first | rfl | omega | (simp_all; done) | (simp_all; omega))
theorem Zan.fn : Fn 94 Zan.g := by
 refine ⟨⟨_, Tryz.func94, rfl, rfl⟩, fun R l v hg w => ?_⟩
 unfold Zan.g at hg
 split at hg
 ·rename_i x0
  obtain ⟨c0, e0, hg⟩ := Option.bind_eq_some_iff.1 hg
  injection hg with hg
  subst hg
  have := (Zan.walk c0).calls (all_cons Zy.fn ZX) w
  simpa only [AV.vs, AV.v, clA, i1_v R e0] using this
 ·cases hg
def Zao.f (a0 : Int) : Option (Int) := (impl_within.f a0 0 1073741822).bind fun e3 => (if e3 = true then (some (wrap64 (a0 + 1))) else (some 0))
def Zao.F (a0 : Int) : Int := (Zao.f a0).getD (0)
theorem Zao.f.isS (a0 : Int) : ∃ r, Zao.f a0 = some r := by
 unfold Zao.f
 (try simp only [impl_within.tot, Option.bind_some])
 repeat' (first | exact ⟨_, rfl⟩ | (exfalso; omega) | split)
theorem Zao.tot (a0 : Int) : Zao.f a0 = some (Zao.F a0) := by
 obtain ⟨r, h⟩ := Zao.f.isS a0
 unfold Zao.F
 rw [h]
 rfl
def Zao.g : List AV → Option AV
 | [x0] => (i1 x0).bind fun c0 => some (.int (Zao.F c0))
 | _ => none
theorem Zao.walk (a0 : Int) : Walk 118 [(82, impl_within.g)] 4 900 [.int a0] ((.int (Zao.F a0) : AV).v R0) := by
 refine w1 fun v O hv hO => ⟨_, _, Tryz.func118, rfl, by kernel_rfl, Nat.le_of_ble_eq_true rfl, ?_⟩
 unfold impl_within.g
 generalize hf0 : impl_within.F = f0
 (try cbv)
 repeat' (apply And.intro <;> (try intro h) <;> (try cbv))
 all_goals (subst hv hO; subst hf0; (try dsimp only [std] at *); (try simp only [nt_] at *)) <;> first | rfl | (simp only [Zao.F, Zao.f, AV.v, AV.vs, impl_within.tot, nv_, reduceIte, *]; done) | (simp_all (maxSteps := 1000000) [std, Zao.F, Zao.f, AV.v, AV.vs, impl_within.tot] <;> (repeat' split) <;> first | rfl | omega | (simp_all; done) | (simp_all; omega))
theorem Zao.fn : Fn 118 Zao.g := by
 refine ⟨⟨_, Tryz.func118, rfl, rfl⟩, fun R l v hg w => ?_⟩
 unfold Zao.g at hg
 split at hg
 ·rename_i x0
  obtain ⟨c0, e0, hg⟩ := Option.bind_eq_some_iff.1 hg
  injection hg with hg
  subst hg
  have := (Zao.walk c0).calls (all_cons impl_within.fn ZX) w
  simpa only [AV.vs, AV.v, clA, i1_v R e0] using this
 ·cases hg
def Zak.f (a0 a1 : Int) : Option (Int) := if a1 < 1 then (some 0) else (if a1 = 0 then (none) else (if (Int.tmod a0 a1) < 0 then (some (wrap64 ((Int.tmod a0 a1) + a1))) else (some (Int.tmod a0 a1))))
def Zak.F (a0 a1 : Int) : Int := (Zak.f a0 a1).getD (0)
theorem Zak.f.isS (a0 a1 : Int) : ∃ r, Zak.f a0 a1 = some r := by
 unfold Zak.f
 repeat' (first | exact ⟨_, rfl⟩ | (exfalso; omega) | split)
theorem Zak.tot (a0 a1 : Int) : Zak.f a0 a1 = some (Zak.F a0 a1) := by
 obtain ⟨r, h⟩ := Zak.f.isS a0 a1
 unfold Zak.F
 rw [h]
 rfl
def Zak.g : List AV → Option AV
 | [x0, x1] => (i1 x0).bind fun c0 => (i1 x1).bind fun c1 => some (.int (Zak.F c0 c1))
 | _ => none
theorem Zak.walk (a0 a1 : Int) : Walk 21 [] 5 900 [.int a0, .int a1] ((.int (Zak.F a0 a1) : AV).v R0) := by
 refine w1 fun v O hv hO => ⟨_, _, Tryz.func21, rfl, by kernel_rfl, Nat.le_of_ble_eq_true rfl, ?_⟩
 (try cbv)
 repeat' (apply And.intro <;> (try intro h) <;> (try cbv))
 all_goals (subst hv hO; (try dsimp only [std] at *); (try simp only [nt_] at *)) <;> first | rfl | (simp only [Zak.F, Zak.f, AV.v, AV.vs, nv_, reduceIte, *]; done) | (simp_all (maxSteps := 1000000) [std, Zak.F, Zak.f, AV.v, AV.vs] <;> (repeat' split) <;> first | rfl | omega | (simp_all; done) | (simp_all; omega))
theorem Zak.fn : Fn 21 Zak.g := by
 refine ⟨⟨_, Tryz.func21, rfl, rfl⟩, fun R l v hg w => ?_⟩
 unfold Zak.g at hg
 split at hg
 ·rename_i x0 x1
  obtain ⟨c0, e0, hg⟩ := Option.bind_eq_some_iff.1 hg
  obtain ⟨c1, e1, hg⟩ := Option.bind_eq_some_iff.1 hg
  injection hg with hg
  subst hg
  have := (Zak.walk c0 c1).calls ZX w
  simpa only [AV.vs, AV.v, clA, i1_v R e0, i1_v R e1] using this
 ·cases hg
def Zam.f (a0 a1 : Int) : Option (Int) := if a1 < 1 then (some 0) else (if a1 = 0 then (none) else (if (Int.tmod a0 a1) < 0 then (some (wrap64 ((Int.tmod a0 a1) + a1))) else (some (Int.tmod a0 a1))))
def Zam.F (a0 a1 : Int) : Int := (Zam.f a0 a1).getD (0)
theorem Zam.f.isS (a0 a1 : Int) : ∃ r, Zam.f a0 a1 = some r := by
 unfold Zam.f
 repeat' (first | exact ⟨_, rfl⟩ | (exfalso; omega) | split)
theorem Zam.tot (a0 a1 : Int) : Zam.f a0 a1 = some (Zam.F a0 a1) := by
 obtain ⟨r, h⟩ := Zam.f.isS a0 a1
 unfold Zam.F
 rw [h]
 rfl
def Zam.g : List AV → Option AV
 | [x0, x1] => (i1 x0).bind fun c0 => (i1 x1).bind fun c1 => some (.int (Zam.F c0 c1))
 | _ => none
theorem Zam.walk (a0 a1 : Int) : Walk 51 [] 5 900 [.int a0, .int a1] ((.int (Zam.F a0 a1) : AV).v R0) := by
 refine w1 fun v O hv hO => ⟨_, _, Tryz.func51, rfl, by kernel_rfl, Nat.le_of_ble_eq_true rfl, ?_⟩
 (try cbv)
 repeat' (apply And.intro <;> (try intro h) <;> (try cbv))
 all_goals (subst hv hO; (try dsimp only [std] at *); (try simp only [nt_] at *)) <;> first | rfl | (simp only [Zam.F, Zam.f, AV.v, AV.vs, nv_, reduceIte, *]; done) | (simp_all (maxSteps := 1000000) [std, Zam.F, Zam.f, AV.v, AV.vs] <;> (repeat' split) <;> first | rfl | omega | (simp_all; done) | (simp_all; omega))
theorem Zam.fn : Fn 51 Zam.g := by
 refine ⟨⟨_, Tryz.func51, rfl, rfl⟩, fun R l v hg w => ?_⟩
 unfold Zam.g at hg
 split at hg
 ·rename_i x0 x1
  obtain ⟨c0, e0, hg⟩ := Option.bind_eq_some_iff.1 hg
  obtain ⟨c1, e1, hg⟩ := Option.bind_eq_some_iff.1 hg
  injection hg with hg
  subst hg
  have := (Zam.walk c0 c1).calls ZX w
  simpa only [AV.vs, AV.v, clA, i1_v R e0, i1_v R e1] using this
 ·cases hg
def ZR.f (a0 : Int) : Option (Bool) := if a0 ≥ 1 then (some (decide (a0 ≤ 16))) else (some false)
def ZR.F (a0 : Int) : Bool := (ZR.f a0).getD (false)
theorem ZR.f.isS (a0 : Int) : ∃ r, ZR.f a0 = some r := by
 unfold ZR.f
 repeat' (first | exact ⟨_, rfl⟩ | (exfalso; omega) | split)
theorem ZR.tot (a0 : Int) : ZR.f a0 = some (ZR.F a0) := by
 obtain ⟨r, h⟩ := ZR.f.isS a0
 unfold ZR.F
 rw [h]
 rfl
def ZR.g : List AV → Option AV
 | [x0] => (i1 x0).bind fun c0 => some (.bool (ZR.F c0))
 | _ => none
theorem ZR.walk (a0 : Int) : Walk 38 [] 4 900 [.int a0] ((.bool (ZR.F a0) : AV).v R0) := by
 refine w1 fun v O hv hO => ⟨_, _, Tryz.func38, rfl, by kernel_rfl, Nat.le_of_ble_eq_true rfl, ?_⟩
 (try cbv)
 repeat' (apply And.intro <;> (try intro h) <;> (try cbv))
 all_goals (subst hv hO; (try dsimp only [std] at *); (try simp only [nt_] at *)) <;> first | rfl | (simp only [ZR.F, ZR.f, AV.v, AV.vs, nv_, reduceIte, *]; done) | (simp_all (maxSteps := 1000000) [std, ZR.F, ZR.f, AV.v, AV.vs] <;> (repeat' split) <;> first | rfl | omega | (simp_all; done) | (simp_all; omega))
theorem ZR.fn : Fn 38 ZR.g := by
 refine ⟨⟨_, Tryz.func38, rfl, rfl⟩, fun R l v hg w => ?_⟩
 unfold ZR.g at hg
 split at hg
 ·rename_i x0
  obtain ⟨c0, e0, hg⟩ := Option.bind_eq_some_iff.1 hg
  injection hg with hg
  subst hg
  have := (ZR.walk c0).calls ZX w
  simpa only [AV.vs, AV.v, clA, i1_v R e0] using this
 ·cases hg
def Zaj.f (a0 : Int) : Option (Bool) := if a0 ≥ 2 then (some (decide (a0 ≤ 16))) else (some false)
def Zaj.F (a0 : Int) : Bool := (Zaj.f a0).getD (false)
theorem Zaj.f.isS (a0 : Int) : ∃ r, Zaj.f a0 = some r := by
 unfold Zaj.f
 repeat' (first | exact ⟨_, rfl⟩ | (exfalso; omega) | split)
theorem Zaj.tot (a0 : Int) : Zaj.f a0 = some (Zaj.F a0) := by
 obtain ⟨r, h⟩ := Zaj.f.isS a0
 unfold Zaj.F
 rw [h]
 rfl
def Zaj.g : List AV → Option AV
 | [x0] => (i1 x0).bind fun c0 => some (.bool (Zaj.F c0))
 | _ => none
theorem Zaj.walk (a0 : Int) : Walk 98 [] 4 900 [.int a0] ((.bool (Zaj.F a0) : AV).v R0) := by
 refine w1 fun v O hv hO => ⟨_, _, Tryz.func98, rfl, by kernel_rfl, Nat.le_of_ble_eq_true rfl, ?_⟩
 (try cbv)
 repeat' (apply And.intro <;> (try intro h) <;> (try cbv))
 all_goals (subst hv hO; (try dsimp only [std] at *); (try simp only [nt_] at *)) <;> first | rfl | (simp only [Zaj.F, Zaj.f, AV.v, AV.vs, nv_, reduceIte, *]; done) | (simp_all (maxSteps := 1000000) [std, Zaj.F, Zaj.f, AV.v, AV.vs] <;> (repeat' split) <;> first | rfl | omega | (simp_all; done) | (simp_all; omega))
theorem Zaj.fn : Fn 98 Zaj.g := by
 refine ⟨⟨_, Tryz.func98, rfl, rfl⟩, fun R l v hg w => ?_⟩
 unfold Zaj.g at hg
 split at hg
 ·rename_i x0
  obtain ⟨c0, e0, hg⟩ := Option.bind_eq_some_iff.1 hg
  injection hg with hg
  subst hg
  have := (Zaj.walk c0).calls ZX w
  simpa only [AV.vs, AV.v, clA, i1_v R e0] using this
 ·cases hg
def Zt.f (a0 : Int) : Option (Int × Int) := (Zad.f a0).bind fun c3 => (some (c3.1, c3.2.1))
def Zt.F (a0 : Int) : Int × Int := (Zt.f a0).getD (0, 0)
theorem Zt.f.isS (a0 : Int) : ∃ r, Zt.f a0 = some r := by
 unfold Zt.f
 (try simp only [Zad.tot, Option.bind_some])
 repeat' (first | exact ⟨_, rfl⟩ | (exfalso; omega) | split)
theorem Zt.tot (a0 : Int) : Zt.f a0 = some (Zt.F a0) := by
 obtain ⟨r, h⟩ := Zt.f.isS a0
 unfold Zt.F
 rw [h]
 rfl
def Zt.g : List AV → Option AV
 | [x0] => (i1 x0).bind fun c0 => some (.tup [.int (Zt.F c0).1, .int (Zt.F c0).2])
 | _ => none
theorem Zt.walk (a0 : Int) : Walk 67 [(97, Zad.g)] 4 900 [.int a0] ((.tup [.int (Zt.F a0).1, .int (Zt.F a0).2] : AV).v R0) := by
 refine w1 fun v O hv hO => ⟨_, _, Tryz.func67, rfl, by kernel_rfl, Nat.le_of_ble_eq_true rfl, ?_⟩
 unfold Zad.g
 generalize hf0 : Zad.F = f0
 (try cbv)
 repeat' (apply And.intro <;> (try intro h) <;> (try cbv))
 all_goals (subst hv hO; subst hf0; (try dsimp only [std] at *); (try simp only [nt_] at *)) <;> first | rfl | (simp only [Zt.F, Zt.f, AV.v, AV.vs, Zad.tot, nv_, reduceIte, *]; done) | (simp_all (maxSteps := 1000000) [std, Zt.F, Zt.f, AV.v, AV.vs, Zad.tot] <;> (repeat' split) <;> first | rfl | omega | (simp_all; done) | (simp_all; omega))
theorem Zt.fn : Fn 67 Zt.g := by
 refine ⟨⟨_, Tryz.func67, rfl, rfl⟩, fun R l v hg w => ?_⟩
 unfold Zt.g at hg
 split at hg
 ·rename_i x0
  obtain ⟨c0, e0, hg⟩ := Option.bind_eq_some_iff.1 hg
  injection hg with hg
  subst hg
  have := (Zt.walk c0).calls (all_cons Zad.fn ZX) w
  simpa only [AV.vs, AV.v, clA, i1_v R e0] using this
 ·cases hg
def Z1.f (a0 : Int) : Option (Int × Int) := (Zae.f a0).bind fun c4 => (some (wrap64 (c4.2.1 - 1), c4.1))
def Z1.F (a0 : Int) : Int × Int := (Z1.f a0).getD (0, 0)
theorem Z1.f.isS (a0 : Int) : ∃ r, Z1.f a0 = some r := by
 unfold Z1.f
 (try simp only [Zae.tot, Option.bind_some])
 repeat' (first | exact ⟨_, rfl⟩ | (exfalso; omega) | split)
theorem Z1.tot (a0 : Int) : Z1.f a0 = some (Z1.F a0) := by
 obtain ⟨r, h⟩ := Z1.f.isS a0
 unfold Z1.F
 rw [h]
 rfl
def Z1.g : List AV → Option AV
 | [x0] => (i1 x0).bind fun c0 => some (.tup [.int (Z1.F c0).1, .int (Z1.F c0).2])
 | _ => none
theorem Z1.walk (a0 : Int) : Walk 110 [(120, Zae.g)] 5 900 [.int a0] ((.tup [.int (Z1.F a0).1, .int (Z1.F a0).2] : AV).v R0) := by
 refine w1 fun v O hv hO => ⟨_, _, Tryz.func110, rfl, by kernel_rfl, Nat.le_of_ble_eq_true rfl, ?_⟩
 unfold Zae.g
 generalize hf0 : Zae.F = f0
 (try cbv)
 repeat' (apply And.intro <;> (try intro h) <;> (try cbv))
 all_goals (subst hv hO; subst hf0; (try dsimp only [std] at *); (try simp only [nt_] at *)) <;> first | rfl | (simp only [Z1.F, Z1.f, AV.v, AV.vs, Zae.tot, nv_, reduceIte, *]; done) | (simp_all (maxSteps := 1000000) [std, Z1.F, Z1.f, AV.v, AV.vs, Zae.tot] <;> (repeat' split) <;> first | rfl | omega | (simp_all; done) | (simp_all; omega))
theorem Z1.fn : Fn 110 Z1.g := by
 refine ⟨⟨_, Tryz.func110, rfl, rfl⟩, fun R l v hg w => ?_⟩
 unfold Z1.g at hg
 split at hg
 ·rename_i x0
  obtain ⟨c0, e0, hg⟩ := Option.bind_eq_some_iff.1 hg
  injection hg with hg
  subst hg
  have := (Z1.walk c0).calls (all_cons Zae.fn ZX) w
  simpa only [AV.vs, AV.v, clA, i1_v R e0] using this
 ·cases hg
def Zx.f (b0 b1 b2 b3 b4 b5 b6 b7 b8 : Int) (b9 : Bool) : Option (Int) := if b0 = 1 then (some b1) else ((Zt.f b6).bind fun e4 => (some (wrap64 (e4.2 - 1))))
def Zx.F (b0 b1 b2 b3 b4 b5 b6 b7 b8 : Int) (b9 : Bool) : Int := (Zx.f b0 b1 b2 b3 b4 b5 b6 b7 b8 b9).getD (0)
theorem Zx.f.isS (b0 b1 b2 b3 b4 b5 b6 b7 b8 : Int) (b9 : Bool) : ∃ r, Zx.f b0 b1 b2 b3 b4 b5 b6 b7 b8 b9 = some r := by
 unfold Zx.f
 (try simp only [Zt.tot, Option.bind_some])
 repeat' (first | exact ⟨_, rfl⟩ | (exfalso; omega) | split)
theorem Zx.tot (b0 b1 b2 b3 b4 b5 b6 b7 b8 : Int) (b9 : Bool) : Zx.f b0 b1 b2 b3 b4 b5 b6 b7 b8 b9 = some (Zx.F b0 b1 b2 b3 b4 b5 b6 b7 b8 b9) := by
 obtain ⟨r, h⟩ := Zx.f.isS b0 b1 b2 b3 b4 b5 b6 b7 b8 b9
 unfold Zx.F
 rw [h]
 rfl
def Zx.g : List AV → Option AV
 | [x0] => (dC x0).bind fun c0 => some (.int (Zx.F c0.f0 c0.f1 c0.f2 c0.f3 c0.f4 c0.f5 c0.f6 c0.f7 c0.f8 c0.f9))
 | _ => none
theorem Zx.walk (b0 b1 b2 b3 b4 b5 b6 b7 b8 : Int) (b9 : Bool) : Walk 69 [(67, Zt.g)] 5 900 [.agg [.int b0, .int b1, .int b2, .int b3, .int b4, .int b5, .int b6, .int b7, .int b8, .bool b9]] ((.int (Zx.F b0 b1 b2 b3 b4 b5 b6 b7 b8 b9) : AV).v R0) := by
 refine w1 fun v O hv hO => ⟨_, _, Tryz.func69, rfl, by kernel_rfl, Nat.le_of_ble_eq_true rfl, ?_⟩
 unfold Zt.g
 generalize hf0 : Zt.F = f0
 (try cbv)
 repeat' (apply And.intro <;> (try intro h) <;> (try cbv))
 all_goals (subst hv hO; subst hf0; (try dsimp only [std] at *); (try simp only [nt_] at *)) <;> first | rfl | (simp only [Zx.F, Zx.f, AV.v, AV.vs, Zt.tot, nv_, reduceIte, *]; done) | (simp_all (maxSteps := 1000000) [std, Zx.F, Zx.f, AV.v, AV.vs, Zt.tot] <;> (repeat' split) <;> first | rfl | omega | (simp_all; done) | (simp_all; omega))
theorem Zx.fn : Fn 69 Zx.g := by
 refine ⟨⟨_, Tryz.func69, rfl, rfl⟩, fun R l v hg w => ?_⟩
 unfold Zx.g at hg
 split at hg
 ·rename_i x0
  obtain ⟨c0, e0, hg⟩ := Option.bind_eq_some_iff.1 hg
  injection hg with hg
  subst hg
  have := (Zx.walk c0.f0 c0.f1 c0.f2 c0.f3 c0.f4 c0.f5 c0.f6 c0.f7 c0.f8 c0.f9).calls (all_cons Zt.fn ZX) w
  simpa only [AV.vs, AV.v, clA, dC_v R e0] using this
 ·cases hg
def ZQ.f (a0 : Int) : Option (TA) := some (1, a0, 0, 0, true)
def ZQ.F (a0 : Int) : TA := (ZQ.f a0).getD (0, 0, 0, 0, false)
theorem ZQ.f.isS (a0 : Int) : ∃ r, ZQ.f a0 = some r := by
 unfold ZQ.f
 repeat' (first | exact ⟨_, rfl⟩ | (exfalso; omega) | split)
theorem ZQ.tot (a0 : Int) : ZQ.f a0 = some (ZQ.F a0) := by
 obtain ⟨r, h⟩ := ZQ.f.isS a0
 unfold ZQ.F
 rw [h]
 rfl
def ZQ.g : List AV → Option AV
 | [x0] => (i1 x0).bind fun c0 => some (.tup [.agg [.int (ZQ.F c0).1, .int (ZQ.F c0).2.1, .int (ZQ.F c0).2.2.1, .int (ZQ.F c0).2.2.2.1], .bool (ZQ.F c0).2.2.2.2])
 | _ => none
theorem ZQ.walk (a0 : Int) : Walk 91 [] 3 900 [.int a0] ((.tup [.agg [.int (ZQ.F a0).1, .int (ZQ.F a0).2.1, .int (ZQ.F a0).2.2.1, .int (ZQ.F a0).2.2.2.1], .bool (ZQ.F a0).2.2.2.2] : AV).v R0) := by
 refine w1 fun v O hv hO => ⟨_, _, Tryz.func91, rfl, by kernel_rfl, Nat.le_of_ble_eq_true rfl, ?_⟩
 (try cbv)
 repeat' (apply And.intro <;> (try intro h) <;> (try cbv))
 all_goals (subst hv hO; (try dsimp only [std] at *); (try simp only [nt_] at *)) <;> first | rfl | (simp only [ZQ.F, ZQ.f, AV.v, AV.vs, nv_, reduceIte, *]; done) | (simp_all (maxSteps := 1000000) [std, ZQ.F, ZQ.f, AV.v, AV.vs] <;> (repeat' split) <;> first | rfl | omega | (simp_all; done) | (simp_all; omega))
theorem ZQ.fn : Fn 91 ZQ.g := by
 refine ⟨⟨_, Tryz.func91, rfl, rfl⟩, fun R l v hg w => ?_⟩
 unfold ZQ.g at hg
 split at hg
 ·rename_i x0
  obtain ⟨c0, e0, hg⟩ := Option.bind_eq_some_iff.1 hg
  injection hg with hg
  subst hg
  have := (ZQ.walk c0).calls ZX w
  simpa only [AV.vs, AV.v, clA, i1_v R e0] using this
 ·cases hg
def ZP.f (a0 a1 : Int) : Option (TA) := some (2, a0, a1, 0, true)
def ZP.F (a0 a1 : Int) : TA := (ZP.f a0 a1).getD (0, 0, 0, 0, false)
theorem ZP.f.isS (a0 a1 : Int) : ∃ r, ZP.f a0 a1 = some r := by
 unfold ZP.f
 repeat' (first | exact ⟨_, rfl⟩ | (exfalso; omega) | split)
theorem ZP.tot (a0 a1 : Int) : ZP.f a0 a1 = some (ZP.F a0 a1) := by
 obtain ⟨r, h⟩ := ZP.f.isS a0 a1
 unfold ZP.F
 rw [h]
 rfl
def ZP.g : List AV → Option AV
 | [x0, x1] => (i1 x0).bind fun c0 => (i1 x1).bind fun c1 => some (.tup [.agg [.int (ZP.F c0 c1).1, .int (ZP.F c0 c1).2.1, .int (ZP.F c0 c1).2.2.1, .int (ZP.F c0 c1).2.2.2.1], .bool (ZP.F c0 c1).2.2.2.2])
 | _ => none
theorem ZP.walk (a0 a1 : Int) : Walk 92 [] 4 900 [.int a0, .int a1] ((.tup [.agg [.int (ZP.F a0 a1).1, .int (ZP.F a0 a1).2.1, .int (ZP.F a0 a1).2.2.1, .int (ZP.F a0 a1).2.2.2.1], .bool (ZP.F a0 a1).2.2.2.2] : AV).v R0) := by
 refine w1 fun v O hv hO => ⟨_, _, Tryz.func92, rfl, by kernel_rfl, Nat.le_of_ble_eq_true rfl, ?_⟩
 (try cbv)
 repeat' (apply And.intro <;> (try intro h) <;> (try cbv))
 all_goals (subst hv hO; (try dsimp only [std] at *); (try simp only [nt_] at *)) <;> first | rfl | (simp only [ZP.F, ZP.f, AV.v, AV.vs, nv_, reduceIte, *]; done) | (simp_all (maxSteps := 1000000) [std, ZP.F, ZP.f, AV.v, AV.vs] <;> (repeat' split) <;> first | rfl | omega | (simp_all; done) | (simp_all; omega))
theorem ZP.fn : Fn 92 ZP.g := by
 refine ⟨⟨_, Tryz.func92, rfl, rfl⟩, fun R l v hg w => ?_⟩
 unfold ZP.g at hg
 split at hg
 ·rename_i x0 x1
  obtain ⟨c0, e0, hg⟩ := Option.bind_eq_some_iff.1 hg
  obtain ⟨c1, e1, hg⟩ := Option.bind_eq_some_iff.1 hg
  injection hg with hg
  subst hg
  have := (ZP.walk c0 c1).calls ZX w
  simpa only [AV.vs, AV.v, clA, i1_v R e0, i1_v R e1] using this
 ·cases hg
def ZW.f (a0 a1 a2 : Int) : Option (TA) := some (3, a0, a1, a2, true)
def ZW.F (a0 a1 a2 : Int) : TA := (ZW.f a0 a1 a2).getD (0, 0, 0, 0, false)
theorem ZW.f.isS (a0 a1 a2 : Int) : ∃ r, ZW.f a0 a1 a2 = some r := by
 unfold ZW.f
 repeat' (first | exact ⟨_, rfl⟩ | (exfalso; omega) | split)
theorem ZW.tot (a0 a1 a2 : Int) : ZW.f a0 a1 a2 = some (ZW.F a0 a1 a2) := by
 obtain ⟨r, h⟩ := ZW.f.isS a0 a1 a2
 unfold ZW.F
 rw [h]
 rfl
def ZW.g : List AV → Option AV
 | [x0, x1, x2] => (i1 x0).bind fun c0 => (i1 x1).bind fun c1 => (i1 x2).bind fun c2 => some (.tup [.agg [.int (ZW.F c0 c1 c2).1, .int (ZW.F c0 c1 c2).2.1, .int (ZW.F c0 c1 c2).2.2.1, .int (ZW.F c0 c1 c2).2.2.2.1], .bool (ZW.F c0 c1 c2).2.2.2.2])
 | _ => none
theorem ZW.walk (a0 a1 a2 : Int) : Walk 95 [] 4 900 [.int a0, .int a1, .int a2] ((.tup [.agg [.int (ZW.F a0 a1 a2).1, .int (ZW.F a0 a1 a2).2.1, .int (ZW.F a0 a1 a2).2.2.1, .int (ZW.F a0 a1 a2).2.2.2.1], .bool (ZW.F a0 a1 a2).2.2.2.2] : AV).v R0) := by
 refine w1 fun v O hv hO => ⟨_, _, Tryz.func95, rfl, by kernel_rfl, Nat.le_of_ble_eq_true rfl, ?_⟩
 (try cbv)
 repeat' (apply And.intro <;> (try intro h) <;> (try cbv))
 all_goals (subst hv hO; (try dsimp only [std] at *); (try simp only [nt_] at *)) <;> first | rfl | (simp only [ZW.F, ZW.f, AV.v, AV.vs, nv_, reduceIte, *]; done) | (simp_all (maxSteps := 1000000) [std, ZW.F, ZW.f, AV.v, AV.vs] <;> (repeat' split) <;> first | rfl | omega | (simp_all; done) | (simp_all; omega))
theorem ZW.fn : Fn 95 ZW.g := by
 refine ⟨⟨_, Tryz.func95, rfl, rfl⟩, fun R l v hg w => ?_⟩
 unfold ZW.g at hg
 split at hg
 ·rename_i x0 x1 x2
  obtain ⟨c0, e0, hg⟩ := Option.bind_eq_some_iff.1 hg
  obtain ⟨c1, e1, hg⟩ := Option.bind_eq_some_iff.1 hg
  obtain ⟨c2, e2, hg⟩ := Option.bind_eq_some_iff.1 hg
  injection hg with hg
  subst hg
  have := (ZW.walk c0 c1 c2).calls ZX w
  simpa only [AV.vs, AV.v, clA, i1_v R e0, i1_v R e1, i1_v R e2] using this
 ·cases hg
def ZZ.f (a0 : Int) : Option (Int) := (Zad.f a0).bind fun e5 => (if e5.2.2 = true then (some a0) else (some 0))
def ZZ.F (a0 : Int) : Int := (ZZ.f a0).getD (0)
theorem ZZ.f.isS (a0 : Int) : ∃ r, ZZ.f a0 = some r := by
 unfold ZZ.f
 (try simp only [Zad.tot, Option.bind_some])
 repeat' (first | exact ⟨_, rfl⟩ | (exfalso; omega) | split)
theorem ZZ.tot (a0 : Int) : ZZ.f a0 = some (ZZ.F a0) := by
 obtain ⟨r, h⟩ := ZZ.f.isS a0
 unfold ZZ.F
 rw [h]
 rfl
def ZZ.g : List AV → Option AV
 | [x0] => (i1 x0).bind fun c0 => some (.int (ZZ.F c0))
 | _ => none
theorem ZZ.walk (a0 : Int) : Walk 66 [(97, Zad.g)] 4 900 [.int a0] ((.int (ZZ.F a0) : AV).v R0) := by
 refine w1 fun v O hv hO => ⟨_, _, Tryz.func66, rfl, by kernel_rfl, Nat.le_of_ble_eq_true rfl, ?_⟩
 unfold Zad.g
 generalize hf0 : Zad.F = f0
 (try cbv)
 repeat' (apply And.intro <;> (try intro h) <;> (try cbv))
 all_goals (subst hv hO; subst hf0; (try dsimp only [std] at *); (try simp only [nt_] at *)) <;> first | rfl | (simp only [ZZ.F, ZZ.f, AV.v, AV.vs, Zad.tot, nv_, reduceIte, *]; done) | (simp_all (maxSteps := 1000000) [std, ZZ.F, ZZ.f, AV.v, AV.vs, Zad.tot] <;> (repeat' split) <;> first | rfl | omega | (simp_all; done) | (simp_all; omega))
theorem ZZ.fn : Fn 66 ZZ.g := by
 refine ⟨⟨_, Tryz.func66, rfl, rfl⟩, fun R l v hg w => ?_⟩
 unfold ZZ.g at hg
 split at hg
 ·rename_i x0
  obtain ⟨c0, e0, hg⟩ := Option.bind_eq_some_iff.1 hg
  injection hg with hg
  subst hg
  have := (ZZ.walk c0).calls (all_cons Zad.fn ZX) w
  simpa only [AV.vs, AV.v, clA, i1_v R e0] using this
 ·cases hg
def Z4.f (a0 : Int) : Option (Int) := (Zae.f a0).bind fun e6 => (if e6.2.2 = true then (some a0) else (some 0))
def Z4.F (a0 : Int) : Int := (Z4.f a0).getD (0)
theorem Z4.f.isS (a0 : Int) : ∃ r, Z4.f a0 = some r := by
 unfold Z4.f
 (try simp only [Zae.tot, Option.bind_some])
 repeat' (first | exact ⟨_, rfl⟩ | (exfalso; omega) | split)
theorem Z4.tot (a0 : Int) : Z4.f a0 = some (Z4.F a0) := by
 obtain ⟨r, h⟩ := Z4.f.isS a0
 unfold Z4.F
 rw [h]
 rfl
def Z4.g : List AV → Option AV
 | [x0] => (i1 x0).bind fun c0 => some (.int (Z4.F c0))
 | _ => none
theorem Z4.walk (a0 : Int) : Walk 109 [(120, Zae.g)] 4 900 [.int a0] ((.int (Z4.F a0) : AV).v R0) := by
 refine w1 fun v O hv hO => ⟨_, _, Tryz.func109, rfl, by kernel_rfl, Nat.le_of_ble_eq_true rfl, ?_⟩
 unfold Zae.g
 generalize hf0 : Zae.F = f0
 (try cbv)
 repeat' (apply And.intro <;> (try intro h) <;> (try cbv))
 all_goals (subst hv hO; subst hf0; (try dsimp only [std] at *); (try simp only [nt_] at *)) <;> first | rfl | (simp only [Z4.F, Z4.f, AV.v, AV.vs, Zae.tot, nv_, reduceIte, *]; done) | (simp_all (maxSteps := 1000000) [std, Z4.F, Z4.f, AV.v, AV.vs, Zae.tot] <;> (repeat' split) <;> first | rfl | omega | (simp_all; done) | (simp_all; omega))
theorem Z4.fn : Fn 109 Z4.g := by
 refine ⟨⟨_, Tryz.func109, rfl, rfl⟩, fun R l v hg w => ?_⟩
 unfold Z4.g at hg
 split at hg
 ·rename_i x0
  obtain ⟨c0, e0, hg⟩ := Option.bind_eq_some_iff.1 hg
  injection hg with hg
  subst hg
  have := (Z4.walk c0).calls (all_cons Zae.fn ZX) w
  simpa only [AV.vs, AV.v, clA, i1_v R e0] using this
 ·cases hg
def Zm.f (b0 b1 b2 b3 b4 b5 b6 b7 b8 : Int) (b9 : Bool) (a1 : Int) : Option (TC) := some (b0, b1, b2, b3, b4, b5, b6, a1, b8, true)
def Zm.F (b0 b1 b2 b3 b4 b5 b6 b7 b8 : Int) (b9 : Bool) (a1 : Int) : TC := (Zm.f b0 b1 b2 b3 b4 b5 b6 b7 b8 b9 a1).getD (0, 0, 0, 0, 0, 0, 0, 0, 0, false)
theorem Zm.f.isS (b0 b1 b2 b3 b4 b5 b6 b7 b8 : Int) (b9 : Bool) (a1 : Int) : ∃ r, Zm.f b0 b1 b2 b3 b4 b5 b6 b7 b8 b9 a1 = some r := by
 unfold Zm.f
 repeat' (first | exact ⟨_, rfl⟩ | (exfalso; omega) | split)
theorem Zm.tot (b0 b1 b2 b3 b4 b5 b6 b7 b8 : Int) (b9 : Bool) (a1 : Int) : Zm.f b0 b1 b2 b3 b4 b5 b6 b7 b8 b9 a1 = some (Zm.F b0 b1 b2 b3 b4 b5 b6 b7 b8 b9 a1) := by
 obtain ⟨r, h⟩ := Zm.f.isS b0 b1 b2 b3 b4 b5 b6 b7 b8 b9 a1
 unfold Zm.F
 rw [h]
 rfl
def Zm.g : List AV → Option AV
 | [x0, x1] => (dC x0).bind fun c0 => (i1 x1).bind fun c1 => some (.agg [.int (Zm.F c0.f0 c0.f1 c0.f2 c0.f3 c0.f4 c0.f5 c0.f6 c0.f7 c0.f8 c0.f9 c1).1, .int (Zm.F c0.f0 c0.f1 c0.f2 c0.f3 c0.f4 c0.f5 c0.f6 c0.f7 c0.f8 c0.f9 c1).2.1, .int (Zm.F c0.f0 c0.f1 c0.f2 c0.f3 c0.f4 c0.f5 c0.f6 c0.f7 c0.f8 c0.f9 c1).2.2.1, .int (Zm.F c0.f0 c0.f1 c0.f2 c0.f3 c0.f4 c0.f5 c0.f6 c0.f7 c0.f8 c0.f9 c1).2.2.2.1, .int (Zm.F c0.f0 c0.f1 c0.f2 c0.f3 c0.f4 c0.f5 c0.f6 c0.f7 c0.f8 c0.f9 c1).2.2.2.2.1, .int (Zm.F c0.f0 c0.f1 c0.f2 c0.f3 c0.f4 c0.f5 c0.f6 c0.f7 c0.f8 c0.f9 c1).2.2.2.2.2.1, .int (Zm.F c0.f0 c0.f1 c0.f2 c0.f3 c0.f4 c0.f5 c0.f6 c0.f7 c0.f8 c0.f9 c1).2.2.2.2.2.2.1, .int (Zm.F c0.f0 c0.f1 c0.f2 c0.f3 c0.f4 c0.f5 c0.f6 c0.f7 c0.f8 c0.f9 c1).2.2.2.2.2.2.2.1, .int (Zm.F c0.f0 c0.f1 c0.f2 c0.f3 c0.f4 c0.f5 c0.f6 c0.f7 c0.f8 c0.f9 c1).2.2.2.2.2.2.2.2.1, .bool (Zm.F c0.f0 c0.f1 c0.f2 c0.f3 c0.f4 c0.f5 c0.f6 c0.f7 c0.f8 c0.f9 c1).2.2.2.2.2.2.2.2.2])
 | _ => none
theorem Zm.walk (b0 b1 b2 b3 b4 b5 b6 b7 b8 : Int) (b9 : Bool) (a1 : Int) : Walk 43 [] 4 900 [.agg [.int b0, .int b1, .int b2, .int b3, .int b4, .int b5, .int b6, .int b7, .int b8, .bool b9], .int a1] ((.agg [.int (Zm.F b0 b1 b2 b3 b4 b5 b6 b7 b8 b9 a1).1, .int (Zm.F b0 b1 b2 b3 b4 b5 b6 b7 b8 b9 a1).2.1, .int (Zm.F b0 b1 b2 b3 b4 b5 b6 b7 b8 b9 a1).2.2.1, .int (Zm.F b0 b1 b2 b3 b4 b5 b6 b7 b8 b9 a1).2.2.2.1, .int (Zm.F b0 b1 b2 b3 b4 b5 b6 b7 b8 b9 a1).2.2.2.2.1, .int (Zm.F b0 b1 b2 b3 b4 b5 b6 b7 b8 b9 a1).2.2.2.2.2.1, .int (Zm.F b0 b1 b2 b3 b4 b5 b6 b7 b8 b9 a1).2.2.2.2.2.2.1, .int (Zm.F b0 b1 b2 b3 b4 b5 b6 b7 b8 b9 a1).2.2.2.2.2.2.2.1, .int (Zm.F b0 b1 b2 b3 b4 b5 b6 b7 b8 b9 a1).2.2.2.2.2.2.2.2.1, .bool (Zm.F b0 b1 b2 b3 b4 b5 b6 b7 b8 b9 a1).2.2.2.2.2.2.2.2.2] : AV).v R0) := by
 refine w1 fun v O hv hO => ⟨_, _, Tryz.func43, rfl, by kernel_rfl, Nat.le_of_ble_eq_true rfl, ?_⟩
 (try cbv)
 repeat' (apply And.intro <;> (try intro h) <;> (try cbv))
 all_goals (subst hv hO; (try dsimp only [std] at *); (try simp only [nt_] at *)) <;> first | rfl | (simp only [Zm.F, Zm.f, AV.v, AV.vs, nv_, reduceIte, *]; done) | (simp_all (maxSteps := 1000000) [std, Zm.F, Zm.f, AV.v, AV.vs] <;> (repeat' split) <;> first | rfl | omega | (simp_all; done) | (simp_all; omega))
theorem Zm.fn : Fn 43 Zm.g := by
 refine ⟨⟨_, Tryz.func43, rfl, rfl⟩, fun R l v hg w => ?_⟩
 unfold Zm.g at hg
 split at hg
 ·rename_i x0 x1
  obtain ⟨c0, e0, hg⟩ := Option.bind_eq_some_iff.1 hg
  obtain ⟨c1, e1, hg⟩ := Option.bind_eq_some_iff.1 hg
  injection hg with hg
  subst hg
  have := (Zm.walk c0.f0 c0.f1 c0.f2 c0.f3 c0.f4 c0.f5 c0.f6 c0.f7 c0.f8 c0.f9 c1).calls ZX w
  simpa only [AV.vs, AV.v, clA, dC_v R e0, i1_v R e1] using this
 ·cases hg
def Zap.f (a0 a1 : Int) : Option (Int) := (Zak.f a1 a0).bind fun e7 => (some (wrap64 (2 + (wrap64 (2 * e7)))))
def Zap.F (a0 a1 : Int) : Int := (Zap.f a0 a1).getD (0)
theorem Zap.f.isS (a0 a1 : Int) : ∃ r, Zap.f a0 a1 = some r := by
 unfold Zap.f
 (try simp only [Zak.tot, Option.bind_some])
 repeat' (first | exact ⟨_, rfl⟩ | (exfalso; omega) | split)
theorem Zap.tot (a0 a1 : Int) : Zap.f a0 a1 = some (Zap.F a0 a1) := by
 obtain ⟨r, h⟩ := Zap.f.isS a0 a1
 unfold Zap.F
 rw [h]
 rfl
def Zap.g : List AV → Option AV
 | [x0, x1] => (i1 x0).bind fun c0 => (i1 x1).bind fun c1 => some (.int (Zap.F c0 c1))
 | _ => none
theorem Zap.walk (a0 a1 : Int) : Walk 99 [(21, Zak.g)] 4 900 [.int a0, .int a1] ((.int (Zap.F a0 a1) : AV).v R0) := by
 refine w1 fun v O hv hO => ⟨_, _, Tryz.func99, rfl, by kernel_rfl, Nat.le_of_ble_eq_true rfl, ?_⟩
 unfold Zak.g
 generalize hf0 : Zak.F = f0
 (try cbv)
 repeat' (apply And.intro <;> (try intro h) <;> (try cbv))
 all_goals (subst hv hO; subst hf0; (try dsimp only [std] at *); (try simp only [nt_] at *)) <;> first | rfl | (simp only [Zap.F, Zap.f, AV.v, AV.vs, Zak.tot, nv_, reduceIte, *]; done) | (simp_all (maxSteps := 1000000) [std, Zap.F, Zap.f, AV.v, AV.vs, Zak.tot] <;> (repeat' split) <;> first | rfl | omega | (simp_all; done) | (simp_all; omega))
theorem Zap.fn : Fn 99 Zap.g := by
 refine ⟨⟨_, Tryz.func99, rfl, rfl⟩, fun R l v hg w => ?_⟩
 unfold Zap.g at hg
 split at hg
 ·rename_i x0 x1
  obtain ⟨c0, e0, hg⟩ := Option.bind_eq_some_iff.1 hg
  obtain ⟨c1, e1, hg⟩ := Option.bind_eq_some_iff.1 hg
  injection hg with hg
  subst hg
  have := (Zap.walk c0 c1).calls (all_cons Zak.fn ZX) w
  simpa only [AV.vs, AV.v, clA, i1_v R e0, i1_v R e1] using this
 ·cases hg
def ZS.f (a0 a1 : Int) : Option (Bool) := if a1 ≥ 0 then (some (decide ((wrap64 (Int.tdiv a1 2)) ≤ a0))) else (some false)
def ZS.F (a0 a1 : Int) : Bool := (ZS.f a0 a1).getD (false)
theorem ZS.f.isS (a0 a1 : Int) : ∃ r, ZS.f a0 a1 = some r := by
 unfold ZS.f
 repeat' (first | exact ⟨_, rfl⟩ | (exfalso; omega) | split)
theorem ZS.tot (a0 a1 : Int) : ZS.f a0 a1 = some (ZS.F a0 a1) := by
 obtain ⟨r, h⟩ := ZS.f.isS a0 a1
 unfold ZS.F
 rw [h]
 rfl
def ZS.g : List AV → Option AV
 | [x0, x1] => (i1 x0).bind fun c0 => (i1 x1).bind fun c1 => some (.bool (ZS.F c0 c1))
 | _ => none
theorem ZS.walk (a0 a1 : Int) : Walk 73 [] 4 900 [.int a0, .int a1] ((.bool (ZS.F a0 a1) : AV).v R0) := by
 refine w1 fun v O hv hO => ⟨_, _, Tryz.func73, rfl, by kernel_rfl, Nat.le_of_ble_eq_true rfl, ?_⟩
 (try cbv)
 repeat' (apply And.intro <;> (try intro h) <;> (try cbv))
 all_goals (subst hv hO; (try dsimp only [std] at *); (try simp only [nt_] at *)) <;> first | rfl | (simp only [ZS.F, ZS.f, AV.v, AV.vs, nv_, reduceIte, *]; done) | (simp_all (maxSteps := 1000000) [std, ZS.F, ZS.f, AV.v, AV.vs] <;> (repeat' split) <;> first | rfl | omega | (simp_all; done) | (simp_all; omega))
theorem ZS.fn : Fn 73 ZS.g := by
 refine ⟨⟨_, Tryz.func73, rfl, rfl⟩, fun R l v hg w => ?_⟩
 unfold ZS.g at hg
 split at hg
 ·rename_i x0 x1
  obtain ⟨c0, e0, hg⟩ := Option.bind_eq_some_iff.1 hg
  obtain ⟨c1, e1, hg⟩ := Option.bind_eq_some_iff.1 hg
  injection hg with hg
  subst hg
  have := (ZS.walk c0 c1).calls ZX w
  simpa only [AV.vs, AV.v, clA, i1_v R e0, i1_v R e1] using this
 ·cases hg
def ZY.f (a0 a1 : Int) : Option (Bool) := (ZS.f a0 a1).bind fun e8 => (if e8 = true then (some (decide ((wrap64 (Int.tdiv a1 2)) ≥ 1))) else (some false))
def ZY.F (a0 a1 : Int) : Bool := (ZY.f a0 a1).getD (false)
theorem ZY.f.isS (a0 a1 : Int) : ∃ r, ZY.f a0 a1 = some r := by
 unfold ZY.f
 (try simp only [ZS.tot, Option.bind_some])
 repeat' (first | exact ⟨_, rfl⟩ | (exfalso; omega) | split)
theorem ZY.tot (a0 a1 : Int) : ZY.f a0 a1 = some (ZY.F a0 a1) := by
 obtain ⟨r, h⟩ := ZY.f.isS a0 a1
 unfold ZY.F
 rw [h]
 rfl
def ZY.g : List AV → Option AV
 | [x0, x1] => (i1 x0).bind fun c0 => (i1 x1).bind fun c1 => some (.bool (ZY.F c0 c1))
 | _ => none
theorem ZY.walk (a0 a1 : Int) : Walk 102 [(73, ZS.g)] 4 900 [.int a0, .int a1] ((.bool (ZY.F a0 a1) : AV).v R0) := by
 refine w1 fun v O hv hO => ⟨_, _, Tryz.func102, rfl, by kernel_rfl, Nat.le_of_ble_eq_true rfl, ?_⟩
 unfold ZS.g
 generalize hf0 : ZS.F = f0
 (try cbv)
 repeat' (apply And.intro <;> (try intro h) <;> (try cbv))
 all_goals (subst hv hO; subst hf0; (try dsimp only [std] at *); (try simp only [nt_] at *)) <;> first | rfl | (simp only [ZY.F, ZY.f, AV.v, AV.vs, ZS.tot, nv_, reduceIte, *]; done) | (simp_all (maxSteps := 1000000) [std, ZY.F, ZY.f, AV.v, AV.vs, ZS.tot] <;> (repeat' split) <;> first | rfl | omega | (simp_all; done) | (simp_all; omega))
theorem ZY.fn : Fn 102 ZY.g := by
 refine ⟨⟨_, Tryz.func102, rfl, rfl⟩, fun R l v hg w => ?_⟩
 unfold ZY.g at hg
 split at hg
 ·rename_i x0 x1
  obtain ⟨c0, e0, hg⟩ := Option.bind_eq_some_iff.1 hg
  obtain ⟨c1, e1, hg⟩ := Option.bind_eq_some_iff.1 hg
  injection hg with hg
  subst hg
  have := (ZY.walk c0 c1).calls (all_cons ZS.fn ZX) w
  simpa only [AV.vs, AV.v, clA, i1_v R e0, i1_v R e1] using this
 ·cases hg
def Zac.f (a0 : Int) : Option (Int) := some (wrap64 ((wrap64 (Int.tdiv a0 2)) - 1))
def Zac.F (a0 : Int) : Int := (Zac.f a0).getD (0)
theorem Zac.f.isS (a0 : Int) : ∃ r, Zac.f a0 = some r := by
 unfold Zac.f
 repeat' (first | exact ⟨_, rfl⟩ | (exfalso; omega) | split)
theorem Zac.tot (a0 : Int) : Zac.f a0 = some (Zac.F a0) := by
 obtain ⟨r, h⟩ := Zac.f.isS a0
 unfold Zac.F
 rw [h]
 rfl
def Zac.g : List AV → Option AV
 | [x0] => (i1 x0).bind fun c0 => some (.int (Zac.F c0))
 | _ => none
theorem Zac.walk (a0 : Int) : Walk 101 [] 3 900 [.int a0] ((.int (Zac.F a0) : AV).v R0) := by
 refine w1 fun v O hv hO => ⟨_, _, Tryz.func101, rfl, by kernel_rfl, Nat.le_of_ble_eq_true rfl, ?_⟩
 (try cbv)
 repeat' (apply And.intro <;> (try intro h) <;> (try cbv))
 all_goals (subst hv hO; (try dsimp only [std] at *); (try simp only [nt_] at *)) <;> first | rfl | (simp only [Zac.F, Zac.f, AV.v, AV.vs, nv_, reduceIte, *]; done) | (simp_all (maxSteps := 1000000) [std, Zac.F, Zac.f, AV.v, AV.vs] <;> (repeat' split) <;> first | rfl | omega | (simp_all; done) | (simp_all; omega))
theorem Zac.fn : Fn 101 Zac.g := by
 refine ⟨⟨_, Tryz.func101, rfl, rfl⟩, fun R l v hg w => ?_⟩
 unfold Zac.g at hg
 split at hg
 ·rename_i x0
  obtain ⟨c0, e0, hg⟩ := Option.bind_eq_some_iff.1 hg
  injection hg with hg
  subst hg
  have := (Zac.walk c0).calls ZX w
  simpa only [AV.vs, AV.v, clA, i1_v R e0] using this
 ·cases hg
def Zw.f (b0 b1 b2 b3 b4 b5 b6 b7 b8 : Int) (b9 : Bool) : Option (TC) := some (b0, b1, b2, 0, 0, b5, b6, b7, b8, b9)
def Zw.F (b0 b1 b2 b3 b4 b5 b6 b7 b8 : Int) (b9 : Bool) : TC := (Zw.f b0 b1 b2 b3 b4 b5 b6 b7 b8 b9).getD (0, 0, 0, 0, 0, 0, 0, 0, 0, false)
theorem Zw.f.isS (b0 b1 b2 b3 b4 b5 b6 b7 b8 : Int) (b9 : Bool) : ∃ r, Zw.f b0 b1 b2 b3 b4 b5 b6 b7 b8 b9 = some r := by
 unfold Zw.f
 repeat' (first | exact ⟨_, rfl⟩ | (exfalso; omega) | split)
theorem Zw.tot (b0 b1 b2 b3 b4 b5 b6 b7 b8 : Int) (b9 : Bool) : Zw.f b0 b1 b2 b3 b4 b5 b6 b7 b8 b9 = some (Zw.F b0 b1 b2 b3 b4 b5 b6 b7 b8 b9) := by
 obtain ⟨r, h⟩ := Zw.f.isS b0 b1 b2 b3 b4 b5 b6 b7 b8 b9
 unfold Zw.F
 rw [h]
 rfl
def Zw.g : List AV → Option AV
 | [x0] => (dC x0).bind fun c0 => some (.agg [.int (Zw.F c0.f0 c0.f1 c0.f2 c0.f3 c0.f4 c0.f5 c0.f6 c0.f7 c0.f8 c0.f9).1, .int (Zw.F c0.f0 c0.f1 c0.f2 c0.f3 c0.f4 c0.f5 c0.f6 c0.f7 c0.f8 c0.f9).2.1, .int (Zw.F c0.f0 c0.f1 c0.f2 c0.f3 c0.f4 c0.f5 c0.f6 c0.f7 c0.f8 c0.f9).2.2.1, .int (Zw.F c0.f0 c0.f1 c0.f2 c0.f3 c0.f4 c0.f5 c0.f6 c0.f7 c0.f8 c0.f9).2.2.2.1, .int (Zw.F c0.f0 c0.f1 c0.f2 c0.f3 c0.f4 c0.f5 c0.f6 c0.f7 c0.f8 c0.f9).2.2.2.2.1, .int (Zw.F c0.f0 c0.f1 c0.f2 c0.f3 c0.f4 c0.f5 c0.f6 c0.f7 c0.f8 c0.f9).2.2.2.2.2.1, .int (Zw.F c0.f0 c0.f1 c0.f2 c0.f3 c0.f4 c0.f5 c0.f6 c0.f7 c0.f8 c0.f9).2.2.2.2.2.2.1, .int (Zw.F c0.f0 c0.f1 c0.f2 c0.f3 c0.f4 c0.f5 c0.f6 c0.f7 c0.f8 c0.f9).2.2.2.2.2.2.2.1, .int (Zw.F c0.f0 c0.f1 c0.f2 c0.f3 c0.f4 c0.f5 c0.f6 c0.f7 c0.f8 c0.f9).2.2.2.2.2.2.2.2.1, .bool (Zw.F c0.f0 c0.f1 c0.f2 c0.f3 c0.f4 c0.f5 c0.f6 c0.f7 c0.f8 c0.f9).2.2.2.2.2.2.2.2.2])
 | _ => none
theorem Zw.walk (b0 b1 b2 b3 b4 b5 b6 b7 b8 : Int) (b9 : Bool) : Walk 76 [] 3 900 [.agg [.int b0, .int b1, .int b2, .int b3, .int b4, .int b5, .int b6, .int b7, .int b8, .bool b9]] ((.agg [.int (Zw.F b0 b1 b2 b3 b4 b5 b6 b7 b8 b9).1, .int (Zw.F b0 b1 b2 b3 b4 b5 b6 b7 b8 b9).2.1, .int (Zw.F b0 b1 b2 b3 b4 b5 b6 b7 b8 b9).2.2.1, .int (Zw.F b0 b1 b2 b3 b4 b5 b6 b7 b8 b9).2.2.2.1, .int (Zw.F b0 b1 b2 b3 b4 b5 b6 b7 b8 b9).2.2.2.2.1, .int (Zw.F b0 b1 b2 b3 b4 b5 b6 b7 b8 b9).2.2.2.2.2.1, .int (Zw.F b0 b1 b2 b3 b4 b5 b6 b7 b8 b9).2.2.2.2.2.2.1, .int (Zw.F b0 b1 b2 b3 b4 b5 b6 b7 b8 b9).2.2.2.2.2.2.2.1, .int (Zw.F b0 b1 b2 b3 b4 b5 b6 b7 b8 b9).2.2.2.2.2.2.2.2.1, .bool (Zw.F b0 b1 b2 b3 b4 b5 b6 b7 b8 b9).2.2.2.2.2.2.2.2.2] : AV).v R0) := by
 refine w1 fun v O hv hO => ⟨_, _, Tryz.func76, rfl, by kernel_rfl, Nat.le_of_ble_eq_true rfl, ?_⟩
 (try cbv)
 repeat' (apply And.intro <;> (try intro h) <;> (try cbv))
 all_goals (subst hv hO; (try dsimp only [std] at *); (try simp only [nt_] at *)) <;> first | rfl | (simp only [Zw.F, Zw.f, AV.v, AV.vs, nv_, reduceIte, *]; done) | (simp_all (maxSteps := 1000000) [std, Zw.F, Zw.f, AV.v, AV.vs] <;> (repeat' split) <;> first | rfl | omega | (simp_all; done) | (simp_all; omega))
theorem Zw.fn : Fn 76 Zw.g := by
 refine ⟨⟨_, Tryz.func76, rfl, rfl⟩, fun R l v hg w => ?_⟩
 unfold Zw.g at hg
 split at hg
 ·rename_i x0
  obtain ⟨c0, e0, hg⟩ := Option.bind_eq_some_iff.1 hg
  injection hg with hg
  subst hg
  have := (Zw.walk c0.f0 c0.f1 c0.f2 c0.f3 c0.f4 c0.f5 c0.f6 c0.f7 c0.f8 c0.f9).calls ZX w
  simpa only [AV.vs, AV.v, clA, dC_v R e0] using this
 ·cases hg
def ZO.f (b0 b1 b2 b3 b4 b5 b6 b7 b8 : Int) (b9 : Bool) (a1 : Int) : Option (TC) := (Zm.f b0 b1 b2 (wrap64 (b3 + 1)) b4 b5 b6 b7 b8 b9 a1).bind fun a3 => (some (a3.1, a3.2.1, a3.2.2.1, a3.2.2.2.1, a3.2.2.2.2.1, a3.2.2.2.2.2.1, a3.2.2.2.2.2.2.1, a3.2.2.2.2.2.2.2.1, a3.2.2.2.2.2.2.2.2.1, a3.2.2.2.2.2.2.2.2.2))
def ZO.F (b0 b1 b2 b3 b4 b5 b6 b7 b8 : Int) (b9 : Bool) (a1 : Int) : TC := (ZO.f b0 b1 b2 b3 b4 b5 b6 b7 b8 b9 a1).getD (0, 0, 0, 0, 0, 0, 0, 0, 0, false)
theorem ZO.f.isS (b0 b1 b2 b3 b4 b5 b6 b7 b8 : Int) (b9 : Bool) (a1 : Int) : ∃ r, ZO.f b0 b1 b2 b3 b4 b5 b6 b7 b8 b9 a1 = some r := by
 unfold ZO.f
 (try simp only [Zm.tot, Option.bind_some])
 repeat' (first | exact ⟨_, rfl⟩ | (exfalso; omega) | split)
theorem ZO.tot (b0 b1 b2 b3 b4 b5 b6 b7 b8 : Int) (b9 : Bool) (a1 : Int) : ZO.f b0 b1 b2 b3 b4 b5 b6 b7 b8 b9 a1 = some (ZO.F b0 b1 b2 b3 b4 b5 b6 b7 b8 b9 a1) := by
 obtain ⟨r, h⟩ := ZO.f.isS b0 b1 b2 b3 b4 b5 b6 b7 b8 b9 a1
 unfold ZO.F
 rw [h]
 rfl
def ZO.g : List AV → Option AV
 | [x0, x1] => (dC x0).bind fun c0 => (i1 x1).bind fun c1 => some (.agg [.int (ZO.F c0.f0 c0.f1 c0.f2 c0.f3 c0.f4 c0.f5 c0.f6 c0.f7 c0.f8 c0.f9 c1).1, .int (ZO.F c0.f0 c0.f1 c0.f2 c0.f3 c0.f4 c0.f5 c0.f6 c0.f7 c0.f8 c0.f9 c1).2.1, .int (ZO.F c0.f0 c0.f1 c0.f2 c0.f3 c0.f4 c0.f5 c0.f6 c0.f7 c0.f8 c0.f9 c1).2.2.1, .int (ZO.F c0.f0 c0.f1 c0.f2 c0.f3 c0.f4 c0.f5 c0.f6 c0.f7 c0.f8 c0.f9 c1).2.2.2.1, .int (ZO.F c0.f0 c0.f1 c0.f2 c0.f3 c0.f4 c0.f5 c0.f6 c0.f7 c0.f8 c0.f9 c1).2.2.2.2.1, .int (ZO.F c0.f0 c0.f1 c0.f2 c0.f3 c0.f4 c0.f5 c0.f6 c0.f7 c0.f8 c0.f9 c1).2.2.2.2.2.1, .int (ZO.F c0.f0 c0.f1 c0.f2 c0.f3 c0.f4 c0.f5 c0.f6 c0.f7 c0.f8 c0.f9 c1).2.2.2.2.2.2.1, .int (ZO.F c0.f0 c0.f1 c0.f2 c0.f3 c0.f4 c0.f5 c0.f6 c0.f7 c0.f8 c0.f9 c1).2.2.2.2.2.2.2.1, .int (ZO.F c0.f0 c0.f1 c0.f2 c0.f3 c0.f4 c0.f5 c0.f6 c0.f7 c0.f8 c0.f9 c1).2.2.2.2.2.2.2.2.1, .bool (ZO.F c0.f0 c0.f1 c0.f2 c0.f3 c0.f4 c0.f5 c0.f6 c0.f7 c0.f8 c0.f9 c1).2.2.2.2.2.2.2.2.2])
 | _ => none
theorem ZO.walk (b0 b1 b2 b3 b4 b5 b6 b7 b8 : Int) (b9 : Bool) (a1 : Int) : Walk 77 [(43, Zm.g)] 4 900 [.agg [.int b0, .int b1, .int b2, .int b3, .int b4, .int b5, .int b6, .int b7, .int b8, .bool b9], .int a1] ((.agg [.int (ZO.F b0 b1 b2 b3 b4 b5 b6 b7 b8 b9 a1).1, .int (ZO.F b0 b1 b2 b3 b4 b5 b6 b7 b8 b9 a1).2.1, .int (ZO.F b0 b1 b2 b3 b4 b5 b6 b7 b8 b9 a1).2.2.1, .int (ZO.F b0 b1 b2 b3 b4 b5 b6 b7 b8 b9 a1).2.2.2.1, .int (ZO.F b0 b1 b2 b3 b4 b5 b6 b7 b8 b9 a1).2.2.2.2.1, .int (ZO.F b0 b1 b2 b3 b4 b5 b6 b7 b8 b9 a1).2.2.2.2.2.1, .int (ZO.F b0 b1 b2 b3 b4 b5 b6 b7 b8 b9 a1).2.2.2.2.2.2.1, .int (ZO.F b0 b1 b2 b3 b4 b5 b6 b7 b8 b9 a1).2.2.2.2.2.2.2.1, .int (ZO.F b0 b1 b2 b3 b4 b5 b6 b7 b8 b9 a1).2.2.2.2.2.2.2.2.1, .bool (ZO.F b0 b1 b2 b3 b4 b5 b6 b7 b8 b9 a1).2.2.2.2.2.2.2.2.2] : AV).v R0) := by
 refine w1 fun v O hv hO => ⟨_, _, Tryz.func77, rfl, by kernel_rfl, Nat.le_of_ble_eq_true rfl, ?_⟩
 unfold Zm.g
 generalize hf0 : Zm.F = f0
 (try cbv)
 repeat' (apply And.intro <;> (try intro h) <;> (try cbv))
 all_goals (subst hv hO; subst hf0; (try dsimp only [std] at *); (try simp only [nt_] at *)) <;> first | rfl | (simp only [ZO.F, ZO.f, AV.v, AV.vs, Zm.tot, nv_, reduceIte, *]; done) | (simp_all (maxSteps := 1000000) [std, ZO.F, ZO.f, AV.v, AV.vs, Zm.tot] <;> (repeat' split) <;> first | rfl | omega | (simp_all; done) | (simp_all; omega))
theorem ZO.fn : Fn 77 ZO.g := by
 refine ⟨⟨_, Tryz.func77, rfl, rfl⟩, fun R l v hg w => ?_⟩
 unfold ZO.g at hg
 split at hg
 ·rename_i x0 x1
  obtain ⟨c0, e0, hg⟩ := Option.bind_eq_some_iff.1 hg
  obtain ⟨c1, e1, hg⟩ := Option.bind_eq_some_iff.1 hg
  injection hg with hg
  subst hg
  have := (ZO.walk c0.f0 c0.f1 c0.f2 c0.f3 c0.f4 c0.f5 c0.f6 c0.f7 c0.f8 c0.f9 c1).calls (all_cons Zm.fn ZX) w
  simpa only [AV.vs, AV.v, clA, dC_v R e0, i1_v R e1] using this
 ·cases hg
def Zr.f (a0 : Int) : Option (Int) := some (wrap64 ((wrap64 (Int.tdiv a0 2)) - 1))
def Zr.F (a0 : Int) : Int := (Zr.f a0).getD (0)
theorem Zr.f.isS (a0 : Int) : ∃ r, Zr.f a0 = some r := by
 unfold Zr.f
 repeat' (first | exact ⟨_, rfl⟩ | (exfalso; omega) | split)
theorem Zr.tot (a0 : Int) : Zr.f a0 = some (Zr.F a0) := by
 obtain ⟨r, h⟩ := Zr.f.isS a0
 unfold Zr.F
 rw [h]
 rfl
def Zr.g : List AV → Option AV
 | [x0] => (i1 x0).bind fun c0 => some (.int (Zr.F c0))
 | _ => none
theorem Zr.walk (a0 : Int) : Walk 123 [] 3 900 [.int a0] ((.int (Zr.F a0) : AV).v R0) := by
 refine w1 fun v O hv hO => ⟨_, _, Tryz.func123, rfl, by kernel_rfl, Nat.le_of_ble_eq_true rfl, ?_⟩
 (try cbv)
 repeat' (apply And.intro <;> (try intro h) <;> (try cbv))
 all_goals (subst hv hO; (try dsimp only [std] at *); (try simp only [nt_] at *)) <;> first | rfl | (simp only [Zr.F, Zr.f, AV.v, AV.vs, nv_, reduceIte, *]; done) | (simp_all (maxSteps := 1000000) [std, Zr.F, Zr.f, AV.v, AV.vs] <;> (repeat' split) <;> first | rfl | omega | (simp_all; done) | (simp_all; omega))
theorem Zr.fn : Fn 123 Zr.g := by
 refine ⟨⟨_, Tryz.func123, rfl, rfl⟩, fun R l v hg w => ?_⟩
 unfold Zr.g at hg
 split at hg
 ·rename_i x0
  obtain ⟨c0, e0, hg⟩ := Option.bind_eq_some_iff.1 hg
  injection hg with hg
  subst hg
  have := (Zr.walk c0).calls ZX w
  simpa only [AV.vs, AV.v, clA, i1_v R e0] using this
 ·cases hg
def Zp.f (a0 a1 : Int) : Option (Bool) := if a0 ≥ 0 then ((Zr.f a0).bind fun e9 => (some (decide (e9 < a1)))) else (some false)
def Zp.F (a0 a1 : Int) : Bool := (Zp.f a0 a1).getD (false)
theorem Zp.f.isS (a0 a1 : Int) : ∃ r, Zp.f a0 a1 = some r := by
 unfold Zp.f
 (try simp only [Zr.tot, Option.bind_some])
 repeat' (first | exact ⟨_, rfl⟩ | (exfalso; omega) | split)
theorem Zp.tot (a0 a1 : Int) : Zp.f a0 a1 = some (Zp.F a0 a1) := by
 obtain ⟨r, h⟩ := Zp.f.isS a0 a1
 unfold Zp.F
 rw [h]
 rfl
def Zp.g : List AV → Option AV
 | [x0, x1] => (i1 x0).bind fun c0 => (i1 x1).bind fun c1 => some (.bool (Zp.F c0 c1))
 | _ => none
theorem Zp.walk (a0 a1 : Int) : Walk 113 [(123, Zr.g)] 4 900 [.int a0, .int a1] ((.bool (Zp.F a0 a1) : AV).v R0) := by
 refine w1 fun v O hv hO => ⟨_, _, Tryz.func113, rfl, by kernel_rfl, Nat.le_of_ble_eq_true rfl, ?_⟩
 unfold Zr.g
 generalize hf0 : Zr.F = f0
 (try cbv)
 repeat' (apply And.intro <;> (try intro h) <;> (try cbv))
 all_goals (subst hv hO; subst hf0; (try dsimp only [std] at *); (try simp only [nt_] at *)) <;> first | rfl | (simp only [Zp.F, Zp.f, AV.v, AV.vs, Zr.tot, nv_, reduceIte, *]; done) | (simp_all (maxSteps := 1000000) [std, Zp.F, Zp.f, AV.v, AV.vs, Zr.tot] <;> (repeat' split) <;> first | rfl | omega | (simp_all; done) | (simp_all; omega))
theorem Zp.fn : Fn 113 Zp.g := by
 refine ⟨⟨_, Tryz.func113, rfl, rfl⟩, fun R l v hg w => ?_⟩
 unfold Zp.g at hg
 split at hg
 ·rename_i x0 x1
  obtain ⟨c0, e0, hg⟩ := Option.bind_eq_some_iff.1 hg
  obtain ⟨c1, e1, hg⟩ := Option.bind_eq_some_iff.1 hg
  injection hg with hg
  subst hg
  have := (Zp.walk c0 c1).calls (all_cons Zr.fn ZX) w
  simpa only [AV.vs, AV.v, clA, i1_v R e0, i1_v R e1] using this
 ·cases hg
def Zq.f (a0 a1 : Int) : Option (Bool) := if a0 = 1 then ((impl_within.f a1 0 6).bind fun g0 => (some g0)) else (if a0 = 2 then ((impl_within.f a1 0 3).bind fun g1 => (if g1 = true then (some true) else (some (a1 == 7)))) else (if a0 = 3 then ((impl_within.f a1 0 2).bind fun g2 => (some g2)) else (some false)))
def Zq.F (a0 a1 : Int) : Bool := (Zq.f a0 a1).getD (false)
theorem Zq.f.isS (a0 a1 : Int) : ∃ r, Zq.f a0 a1 = some r := by
 unfold Zq.f
 (try simp only [impl_within.tot, Option.bind_some])
 repeat' (first | exact ⟨_, rfl⟩ | (exfalso; omega) | split)
theorem Zq.tot (a0 a1 : Int) : Zq.f a0 a1 = some (Zq.F a0 a1) := by
 obtain ⟨r, h⟩ := Zq.f.isS a0 a1
 unfold Zq.F
 rw [h]
 rfl
def Zq.g : List AV → Option AV
 | [x0, x1] => (i1 x0).bind fun c0 => (i1 x1).bind fun c1 => some (.bool (Zq.F c0 c1))
 | _ => none
theorem Zq.walk (a0 a1 : Int) : Walk 121 [(82, impl_within.g)] 5 900 [.int a0, .int a1] ((.bool (Zq.F a0 a1) : AV).v R0) := by
 refine w1 fun v O hv hO => ⟨_, _, Tryz.func121, rfl, by kernel_rfl, Nat.le_of_ble_eq_true rfl, ?_⟩
 unfold impl_within.g
 generalize hf0 : impl_within.F = f0
 (try cbv)
 repeat' (apply And.intro <;> (try intro h) <;> (try cbv))
 all_goals (subst hv hO; subst hf0; (try dsimp only [std] at *); (try simp only [nt_] at *)) <;> first | rfl | (simp only [Zq.F, Zq.f, AV.v, AV.vs, impl_within.tot, nv_, reduceIte, *]; done) | (simp_all (maxSteps := 1000000) [std, Zq.F, Zq.f, AV.v, AV.vs, impl_within.tot] <;> (repeat' split) <;> first | rfl | omega | (simp_all; done) | (simp_all; omega))
theorem Zq.fn : Fn 121 Zq.g := by
 refine ⟨⟨_, Tryz.func121, rfl, rfl⟩, fun R l v hg w => ?_⟩
 unfold Zq.g at hg
 split at hg
 ·rename_i x0 x1
  obtain ⟨c0, e0, hg⟩ := Option.bind_eq_some_iff.1 hg
  obtain ⟨c1, e1, hg⟩ := Option.bind_eq_some_iff.1 hg
  injection hg with hg
  subst hg
  have := (Zq.walk c0 c1).calls (all_cons impl_within.fn ZX) w
  simpa only [AV.vs, AV.v, clA, i1_v R e0, i1_v R e1] using this
 ·cases hg
def Zn.f (a0 : Int) : Option (Int) := some (wrap64 (2 + (wrap64 (2 * a0))))
def Zn.F (a0 : Int) : Int := (Zn.f a0).getD (0)
theorem Zn.f.isS (a0 : Int) : ∃ r, Zn.f a0 = some r := by
 unfold Zn.f
 repeat' (first | exact ⟨_, rfl⟩ | (exfalso; omega) | split)
theorem Zn.tot (a0 : Int) : Zn.f a0 = some (Zn.F a0) := by
 obtain ⟨r, h⟩ := Zn.f.isS a0
 unfold Zn.F
 rw [h]
 rfl
def Zn.g : List AV → Option AV
 | [x0] => (i1 x0).bind fun c0 => some (.int (Zn.F c0))
 | _ => none
theorem Zn.walk (a0 : Int) : Walk 122 [] 3 900 [.int a0] ((.int (Zn.F a0) : AV).v R0) := by
 refine w1 fun v O hv hO => ⟨_, _, Tryz.func122, rfl, by kernel_rfl, Nat.le_of_ble_eq_true rfl, ?_⟩
 (try cbv)
 repeat' (apply And.intro <;> (try intro h) <;> (try cbv))
 all_goals (subst hv hO; (try dsimp only [std] at *); (try simp only [nt_] at *)) <;> first | rfl | (simp only [Zn.F, Zn.f, AV.v, AV.vs, nv_, reduceIte, *]; done) | (simp_all (maxSteps := 1000000) [std, Zn.F, Zn.f, AV.v, AV.vs] <;> (repeat' split) <;> first | rfl | omega | (simp_all; done) | (simp_all; omega))
theorem Zn.fn : Fn 122 Zn.g := by
 refine ⟨⟨_, Tryz.func122, rfl, rfl⟩, fun R l v hg w => ?_⟩
 unfold Zn.g at hg
 split at hg
 ·rename_i x0
  obtain ⟨c0, e0, hg⟩ := Option.bind_eq_some_iff.1 hg
  injection hg with hg
  subst hg
  have := (Zn.walk c0).calls ZX w
  simpa only [AV.vs, AV.v, clA, i1_v R e0] using this
 ·cases hg
def Zu.f (a0 : Int) : Option (Int) := some (wrap64 (1 + (wrap64 (2 * a0))))
def Zu.F (a0 : Int) : Int := (Zu.f a0).getD (0)
theorem Zu.f.isS (a0 : Int) : ∃ r, Zu.f a0 = some r := by
 unfold Zu.f
 repeat' (first | exact ⟨_, rfl⟩ | (exfalso; omega) | split)
theorem Zu.tot (a0 : Int) : Zu.f a0 = some (Zu.F a0) := by
 obtain ⟨r, h⟩ := Zu.f.isS a0
 unfold Zu.F
 rw [h]
 rfl
def Zu.g : List AV → Option AV
 | [x0] => (i1 x0).bind fun c0 => some (.int (Zu.F c0))
 | _ => none
theorem Zu.walk (a0 : Int) : Walk 124 [] 3 900 [.int a0] ((.int (Zu.F a0) : AV).v R0) := by
 refine w1 fun v O hv hO => ⟨_, _, Tryz.func124, rfl, by kernel_rfl, Nat.le_of_ble_eq_true rfl, ?_⟩
 (try cbv)
 repeat' (apply And.intro <;> (try intro h) <;> (try cbv))
 all_goals (subst hv hO; (try dsimp only [std] at *); (try simp only [nt_] at *)) <;> first | rfl | (simp only [Zu.F, Zu.f, AV.v, AV.vs, nv_, reduceIte, *]; done) | (simp_all (maxSteps := 1000000) [std, Zu.F, Zu.f, AV.v, AV.vs] <;> (repeat' split) <;> first | rfl | omega | (simp_all; done) | (simp_all; omega))
theorem Zu.fn : Fn 124 Zu.g := by
 refine ⟨⟨_, Tryz.func124, rfl, rfl⟩, fun R l v hg w => ?_⟩
 unfold Zu.g at hg
 split at hg
 ·rename_i x0
  obtain ⟨c0, e0, hg⟩ := Option.bind_eq_some_iff.1 hg
  injection hg with hg
  subst hg
  have := (Zu.walk c0).calls ZX w
  simpa only [AV.vs, AV.v, clA, i1_v R e0] using this
 ·cases hg
def Z5.f (a0 : Int) : Option (Bool) := some ((Int.tmod a0 2) != 0)
def Z5.F (a0 : Int) : Bool := (Z5.f a0).getD (false)
theorem Z5.f.isS (a0 : Int) : ∃ r, Z5.f a0 = some r := by
 unfold Z5.f
 repeat' (first | exact ⟨_, rfl⟩ | (exfalso; omega) | split)
theorem Z5.tot (a0 : Int) : Z5.f a0 = some (Z5.F a0) := by
 obtain ⟨r, h⟩ := Z5.f.isS a0
 unfold Z5.F
 rw [h]
 rfl
def Z5.g : List AV → Option AV
 | [x0] => (i1 x0).bind fun c0 => some (.bool (Z5.F c0))
 | _ => none
theorem Z5.walk (a0 : Int) : Walk 125 [] 3 900 [.int a0] ((.bool (Z5.F a0) : AV).v R0) := by
 refine w1 fun v O hv hO => ⟨_, _, Tryz.func125, rfl, by kernel_rfl, Nat.le_of_ble_eq_true rfl, ?_⟩
 (try cbv)
 repeat' (apply And.intro <;> (try intro h) <;> (try cbv))
 all_goals (subst hv hO; (try dsimp only [std] at *); (try simp only [nt_] at *)) <;> first | rfl | (simp only [Z5.F, Z5.f, AV.v, AV.vs, nv_, reduceIte, *]; done) | (simp_all (maxSteps := 1000000) [std, Z5.F, Z5.f, AV.v, AV.vs] <;> (repeat' split) <;> first | rfl | omega | (simp_all; done) | (simp_all; omega))
theorem Z5.fn : Fn 125 Z5.g := by
 refine ⟨⟨_, Tryz.func125, rfl, rfl⟩, fun R l v hg w => ?_⟩
 unfold Z5.g at hg
 split at hg
 ·rename_i x0
  obtain ⟨c0, e0, hg⟩ := Option.bind_eq_some_iff.1 hg
  injection hg with hg
  subst hg
  have := (Z5.walk c0).calls ZX w
  simpa only [AV.vs, AV.v, clA, i1_v R e0] using this
 ·cases hg
def Zag.f (a0 : Int) : Option (Bool) := if a0 ≥ 1 then (some (decide (a0 ≤ 3))) else (some false)
def Zag.F (a0 : Int) : Bool := (Zag.f a0).getD (false)
theorem Zag.f.isS (a0 : Int) : ∃ r, Zag.f a0 = some r := by
 unfold Zag.f
 repeat' (first | exact ⟨_, rfl⟩ | (exfalso; omega) | split)
theorem Zag.tot (a0 : Int) : Zag.f a0 = some (Zag.F a0) := by
 obtain ⟨r, h⟩ := Zag.f.isS a0
 unfold Zag.F
 rw [h]
 rfl
def Zag.g : List AV → Option AV
 | [x0] => (i1 x0).bind fun c0 => some (.bool (Zag.F c0))
 | _ => none
theorem Zag.walk (a0 : Int) : Walk 37 [] 4 900 [.int a0] ((.bool (Zag.F a0) : AV).v R0) := by
 refine w1 fun v O hv hO => ⟨_, _, Tryz.func37, rfl, by kernel_rfl, Nat.le_of_ble_eq_true rfl, ?_⟩
 (try cbv)
 repeat' (apply And.intro <;> (try intro h) <;> (try cbv))
 all_goals (subst hv hO; (try dsimp only [std] at *); (try simp only [nt_] at *)) <;> first | rfl | (simp only [Zag.F, Zag.f, AV.v, AV.vs, nv_, reduceIte, *]; done) | (simp_all (maxSteps := 1000000) [std, Zag.F, Zag.f, AV.v, AV.vs] <;> (repeat' split) <;> first | rfl | omega | (simp_all; done) | (simp_all; omega))
theorem Zag.fn : Fn 37 Zag.g := by
 refine ⟨⟨_, Tryz.func37, rfl, rfl⟩, fun R l v hg w => ?_⟩
 unfold Zag.g at hg
 split at hg
 ·rename_i x0
  obtain ⟨c0, e0, hg⟩ := Option.bind_eq_some_iff.1 hg
  injection hg with hg
  subst hg
  have := (Zag.walk c0).calls ZX w
  simpa only [AV.vs, AV.v, clA, i1_v R e0] using this
 ·cases hg
def Z3.f (a0 a1 : Int) : Option (Int) := if a0 = 1 then (some (wrap64 (1 + a1))) else (if a0 = 2 then (some (wrap64 (2 + (wrap64 (2 * a1))))) else (some (wrap64 (1 + (wrap64 (2 * a1))))))
def Z3.F (a0 a1 : Int) : Int := (Z3.f a0 a1).getD (0)
theorem Z3.f.isS (a0 a1 : Int) : ∃ r, Z3.f a0 a1 = some r := by
 unfold Z3.f
 repeat' (first | exact ⟨_, rfl⟩ | (exfalso; omega) | split)
theorem Z3.tot (a0 a1 : Int) : Z3.f a0 a1 = some (Z3.F a0 a1) := by
 obtain ⟨r, h⟩ := Z3.f.isS a0 a1
 unfold Z3.F
 rw [h]
 rfl
def Z3.g : List AV → Option AV
 | [x0, x1] => (i1 x0).bind fun c0 => (i1 x1).bind fun c1 => some (.int (Z3.F c0 c1))
 | _ => none
theorem Z3.walk (a0 a1 : Int) : Walk 39 [] 5 900 [.int a0, .int a1] ((.int (Z3.F a0 a1) : AV).v R0) := by
 refine w1 fun v O hv hO => ⟨_, _, Tryz.func39, rfl, by kernel_rfl, Nat.le_of_ble_eq_true rfl, ?_⟩
 (try cbv)
 repeat' (apply And.intro <;> (try intro h) <;> (try cbv))
 all_goals (subst hv hO; (try dsimp only [std] at *); (try simp only [nt_] at *)) <;> first | rfl | (simp only [Z3.F, Z3.f, AV.v, AV.vs, nv_, reduceIte, *]; done) | (simp_all (maxSteps := 1000000) [std, Z3.F, Z3.f, AV.v, AV.vs] <;> (repeat' split) <;> first | rfl | omega | (simp_all; done) | (simp_all; omega))
theorem Z3.fn : Fn 39 Z3.g := by
 refine ⟨⟨_, Tryz.func39, rfl, rfl⟩, fun R l v hg w => ?_⟩
 unfold Z3.g at hg
 split at hg
 ·rename_i x0 x1
  obtain ⟨c0, e0, hg⟩ := Option.bind_eq_some_iff.1 hg
  obtain ⟨c1, e1, hg⟩ := Option.bind_eq_some_iff.1 hg
  injection hg with hg
  subst hg
  have := (Z3.walk c0 c1).calls ZX w
  simpa only [AV.vs, AV.v, clA, i1_v R e0, i1_v R e1] using this
 ·cases hg
def Z6.f (a0 a1 : Int) : Option (TC) := if a0 = 1 then (some (a0, a1, 0, 0, 0, 0, 0, 0, 0, false)) else (if a0 = 2 then (some (a0, 0, 0, 0, 0, 0, 0, 0, 0, false)) else (some (0, 0, 0, 0, 0, 0, 0, 0, 0, false)))
def Z6.F (a0 a1 : Int) : TC := (Z6.f a0 a1).getD (0, 0, 0, 0, 0, 0, 0, 0, 0, false)
theorem Z6.f.isS (a0 a1 : Int) : ∃ r, Z6.f a0 a1 = some r := by
 unfold Z6.f
 repeat' (first | exact ⟨_, rfl⟩ | (exfalso; omega) | split)
theorem Z6.tot (a0 a1 : Int) : Z6.f a0 a1 = some (Z6.F a0 a1) := by
 obtain ⟨r, h⟩ := Z6.f.isS a0 a1
 unfold Z6.F
 rw [h]
 rfl
def Z6.g : List AV → Option AV
 | [x0, x1] => (i1 x0).bind fun c0 => (i1 x1).bind fun c1 => some (.agg [.int (Z6.F c0 c1).1, .int (Z6.F c0 c1).2.1, .int (Z6.F c0 c1).2.2.1, .int (Z6.F c0 c1).2.2.2.1, .int (Z6.F c0 c1).2.2.2.2.1, .int (Z6.F c0 c1).2.2.2.2.2.1, .int (Z6.F c0 c1).2.2.2.2.2.2.1, .int (Z6.F c0 c1).2.2.2.2.2.2.2.1, .int (Z6.F c0 c1).2.2.2.2.2.2.2.2.1, .bool (Z6.F c0 c1).2.2.2.2.2.2.2.2.2])
 | _ => none
theorem Z6.walk (a0 a1 : Int) : Walk 88 [] 5 900 [.int a0, .int a1] ((.agg [.int (Z6.F a0 a1).1, .int (Z6.F a0 a1).2.1, .int (Z6.F a0 a1).2.2.1, .int (Z6.F a0 a1).2.2.2.1, .int (Z6.F a0 a1).2.2.2.2.1, .int (Z6.F a0 a1).2.2.2.2.2.1, .int (Z6.F a0 a1).2.2.2.2.2.2.1, .int (Z6.F a0 a1).2.2.2.2.2.2.2.1, .int (Z6.F a0 a1).2.2.2.2.2.2.2.2.1, .bool (Z6.F a0 a1).2.2.2.2.2.2.2.2.2] : AV).v R0) := by
 refine w1 fun v O hv hO => ⟨_, _, Tryz.func88, rfl, by kernel_rfl, Nat.le_of_ble_eq_true rfl, ?_⟩
 (try cbv)
 repeat' (apply And.intro <;> (try intro h) <;> (try cbv))
 all_goals (subst hv hO; (try dsimp only [std] at *); (try simp only [nt_] at *)) <;> first | rfl | (simp only [Z6.F, Z6.f, AV.v, AV.vs, nv_, reduceIte, *]; done) | (simp_all (maxSteps := 1000000) [std, Z6.F, Z6.f, AV.v, AV.vs] <;> (repeat' split) <;> first | rfl | omega | (simp_all; done) | (simp_all; omega))
theorem Z6.fn : Fn 88 Z6.g := by
 refine ⟨⟨_, Tryz.func88, rfl, rfl⟩, fun R l v hg w => ?_⟩
 unfold Z6.g at hg
 split at hg
 ·rename_i x0 x1
  obtain ⟨c0, e0, hg⟩ := Option.bind_eq_some_iff.1 hg
  obtain ⟨c1, e1, hg⟩ := Option.bind_eq_some_iff.1 hg
  injection hg with hg
  subst hg
  have := (Z6.walk c0 c1).calls ZX w
  simpa only [AV.vs, AV.v, clA, i1_v R e0, i1_v R e1] using this
 ·cases hg
def Z7.f (a0 a1 : Int) : Option (TC) := if a0 = 1 then (some (a0, a1, 0, 0, 0, 0, 0, 0, 0, false)) else (if a0 = 2 then (some (a0, 0, 0, 0, 0, 0, 0, 0, 0, false)) else (some (0, 0, 0, 0, 0, 0, 0, 0, 0, false)))
def Z7.F (a0 a1 : Int) : TC := (Z7.f a0 a1).getD (0, 0, 0, 0, 0, 0, 0, 0, 0, false)
theorem Z7.f.isS (a0 a1 : Int) : ∃ r, Z7.f a0 a1 = some r := by
 unfold Z7.f
 repeat' (first | exact ⟨_, rfl⟩ | (exfalso; omega) | split)
theorem Z7.tot (a0 a1 : Int) : Z7.f a0 a1 = some (Z7.F a0 a1) := by
 obtain ⟨r, h⟩ := Z7.f.isS a0 a1
 unfold Z7.F
 rw [h]
 rfl
def Z7.g : List AV → Option AV
 | [x0, x1] => (i1 x0).bind fun c0 => (i1 x1).bind fun c1 => some (.agg [.int (Z7.F c0 c1).1, .int (Z7.F c0 c1).2.1, .int (Z7.F c0 c1).2.2.1, .int (Z7.F c0 c1).2.2.2.1, .int (Z7.F c0 c1).2.2.2.2.1, .int (Z7.F c0 c1).2.2.2.2.2.1, .int (Z7.F c0 c1).2.2.2.2.2.2.1, .int (Z7.F c0 c1).2.2.2.2.2.2.2.1, .int (Z7.F c0 c1).2.2.2.2.2.2.2.2.1, .bool (Z7.F c0 c1).2.2.2.2.2.2.2.2.2])
 | _ => none
theorem Z7.walk (a0 a1 : Int) : Walk 89 [] 5 900 [.int a0, .int a1] ((.agg [.int (Z7.F a0 a1).1, .int (Z7.F a0 a1).2.1, .int (Z7.F a0 a1).2.2.1, .int (Z7.F a0 a1).2.2.2.1, .int (Z7.F a0 a1).2.2.2.2.1, .int (Z7.F a0 a1).2.2.2.2.2.1, .int (Z7.F a0 a1).2.2.2.2.2.2.1, .int (Z7.F a0 a1).2.2.2.2.2.2.2.1, .int (Z7.F a0 a1).2.2.2.2.2.2.2.2.1, .bool (Z7.F a0 a1).2.2.2.2.2.2.2.2.2] : AV).v R0) := by
 refine w1 fun v O hv hO => ⟨_, _, Tryz.func89, rfl, by kernel_rfl, Nat.le_of_ble_eq_true rfl, ?_⟩
 (try cbv)
 repeat' (apply And.intro <;> (try intro h) <;> (try cbv))
 all_goals (subst hv hO; (try dsimp only [std] at *); (try simp only [nt_] at *)) <;> first | rfl | (simp only [Z7.F, Z7.f, AV.v, AV.vs, nv_, reduceIte, *]; done) | (simp_all (maxSteps := 1000000) [std, Z7.F, Z7.f, AV.v, AV.vs] <;> (repeat' split) <;> first | rfl | omega | (simp_all; done) | (simp_all; omega))
theorem Z7.fn : Fn 89 Z7.g := by
 refine ⟨⟨_, Tryz.func89, rfl, rfl⟩, fun R l v hg w => ?_⟩
 unfold Z7.g at hg
 split at hg
 ·rename_i x0 x1
  obtain ⟨c0, e0, hg⟩ := Option.bind_eq_some_iff.1 hg
  obtain ⟨c1, e1, hg⟩ := Option.bind_eq_some_iff.1 hg
  injection hg with hg
  subst hg
  have := (Z7.walk c0 c1).calls ZX w
  simpa only [AV.vs, AV.v, clA, i1_v R e0, i1_v R e1] using this
 ·cases hg
def Z8.f (a0 a1 a2 : Int) : Option (TC) := if a0 = 1 then (some (a0, a1, a2, 0, 0, 0, 0, 0, 0, false)) else (if a0 = 2 then (some (a0, a1, 0, 0, 0, 0, 0, 0, 0, false)) else (if a0 = 3 then (some (a0, a1, 0, 0, 0, 0, 0, 0, 0, false)) else (some (0, 0, 0, 0, 0, 0, 0, 0, 0, false))))
def Z8.F (a0 a1 a2 : Int) : TC := (Z8.f a0 a1 a2).getD (0, 0, 0, 0, 0, 0, 0, 0, 0, false)
theorem Z8.f.isS (a0 a1 a2 : Int) : ∃ r, Z8.f a0 a1 a2 = some r := by
 unfold Z8.f
 repeat' (first | exact ⟨_, rfl⟩ | (exfalso; omega) | split)
theorem Z8.tot (a0 a1 a2 : Int) : Z8.f a0 a1 a2 = some (Z8.F a0 a1 a2) := by
 obtain ⟨r, h⟩ := Z8.f.isS a0 a1 a2
 unfold Z8.F
 rw [h]
 rfl
def Z8.g : List AV → Option AV
 | [x0, x1, x2] => (i1 x0).bind fun c0 => (i1 x1).bind fun c1 => (i1 x2).bind fun c2 => some (.agg [.int (Z8.F c0 c1 c2).1, .int (Z8.F c0 c1 c2).2.1, .int (Z8.F c0 c1 c2).2.2.1, .int (Z8.F c0 c1 c2).2.2.2.1, .int (Z8.F c0 c1 c2).2.2.2.2.1, .int (Z8.F c0 c1 c2).2.2.2.2.2.1, .int (Z8.F c0 c1 c2).2.2.2.2.2.2.1, .int (Z8.F c0 c1 c2).2.2.2.2.2.2.2.1, .int (Z8.F c0 c1 c2).2.2.2.2.2.2.2.2.1, .bool (Z8.F c0 c1 c2).2.2.2.2.2.2.2.2.2])
 | _ => none
theorem Z8.walk (a0 a1 a2 : Int) : Walk 90 [] 5 900 [.int a0, .int a1, .int a2] ((.agg [.int (Z8.F a0 a1 a2).1, .int (Z8.F a0 a1 a2).2.1, .int (Z8.F a0 a1 a2).2.2.1, .int (Z8.F a0 a1 a2).2.2.2.1, .int (Z8.F a0 a1 a2).2.2.2.2.1, .int (Z8.F a0 a1 a2).2.2.2.2.2.1, .int (Z8.F a0 a1 a2).2.2.2.2.2.2.1, .int (Z8.F a0 a1 a2).2.2.2.2.2.2.2.1, .int (Z8.F a0 a1 a2).2.2.2.2.2.2.2.2.1, .bool (Z8.F a0 a1 a2).2.2.2.2.2.2.2.2.2] : AV).v R0) := by
 refine w1 fun v O hv hO => ⟨_, _, Tryz.func90, rfl, by kernel_rfl, Nat.le_of_ble_eq_true rfl, ?_⟩
 (try cbv)
 repeat' (apply And.intro <;> (try intro h) <;> (try cbv))
 all_goals (subst hv hO; (try dsimp only [std] at *); (try simp only [nt_] at *)) <;> first | rfl | (simp only [Z8.F, Z8.f, AV.v, AV.vs, nv_, reduceIte, *]; done) | (simp_all (maxSteps := 1000000) [std, Z8.F, Z8.f, AV.v, AV.vs] <;> (repeat' split) <;> first | rfl | omega | (simp_all; done) | (simp_all; omega))
theorem Z8.fn : Fn 90 Z8.g := by
 refine ⟨⟨_, Tryz.func90, rfl, rfl⟩, fun R l v hg w => ?_⟩
 unfold Z8.g at hg
 split at hg
 ·rename_i x0 x1 x2
  obtain ⟨c0, e0, hg⟩ := Option.bind_eq_some_iff.1 hg
  obtain ⟨c1, e1, hg⟩ := Option.bind_eq_some_iff.1 hg
  obtain ⟨c2, e2, hg⟩ := Option.bind_eq_some_iff.1 hg
  injection hg with hg
  subst hg
  have := (Z8.walk c0 c1 c2).calls ZX w
  simpa only [AV.vs, AV.v, clA, i1_v R e0, i1_v R e1, i1_v R e2] using this
 ·cases hg
def Z0.f (a0 d0 d1 d2 d3 d4 d5 d6 d7 d8 : Int) (d9 : Bool) : Option (TC) := if a0 = 1 then ((Z6.f d0 d1).bind fun a4 => (some (a4.1, a4.2.1, a4.2.2.1, a4.2.2.2.1, a4.2.2.2.2.1, a4.2.2.2.2.2.1, a4.2.2.2.2.2.2.1, a4.2.2.2.2.2.2.2.1, a4.2.2.2.2.2.2.2.2.1, a4.2.2.2.2.2.2.2.2.2))) else (if a0 = 2 then ((Z7.f d0 d1).bind fun a5 => (some (a5.1, a5.2.1, a5.2.2.1, a5.2.2.2.1, a5.2.2.2.2.1, a5.2.2.2.2.2.1, a5.2.2.2.2.2.2.1, a5.2.2.2.2.2.2.2.1, a5.2.2.2.2.2.2.2.2.1, a5.2.2.2.2.2.2.2.2.2))) else ((Z8.f d0 d1 d2).bind fun a6 => (some (a6.1, a6.2.1, a6.2.2.1, a6.2.2.2.1, a6.2.2.2.2.1, a6.2.2.2.2.2.1, a6.2.2.2.2.2.2.1, a6.2.2.2.2.2.2.2.1, a6.2.2.2.2.2.2.2.2.1, a6.2.2.2.2.2.2.2.2.2))))
def Z0.F (a0 d0 d1 d2 d3 d4 d5 d6 d7 d8 : Int) (d9 : Bool) : TC := (Z0.f a0 d0 d1 d2 d3 d4 d5 d6 d7 d8 d9).getD (0, 0, 0, 0, 0, 0, 0, 0, 0, false)
theorem Z0.f.isS (a0 d0 d1 d2 d3 d4 d5 d6 d7 d8 : Int) (d9 : Bool) : ∃ r, Z0.f a0 d0 d1 d2 d3 d4 d5 d6 d7 d8 d9 = some r := by
 unfold Z0.f
 (try simp only [Z6.tot, Z7.tot, Z8.tot, Option.bind_some])
 repeat' (first | exact ⟨_, rfl⟩ | (exfalso; omega) | split)
theorem Z0.tot (a0 d0 d1 d2 d3 d4 d5 d6 d7 d8 : Int) (d9 : Bool) : Z0.f a0 d0 d1 d2 d3 d4 d5 d6 d7 d8 d9 = some (Z0.F a0 d0 d1 d2 d3 d4 d5 d6 d7 d8 d9) := by
 obtain ⟨r, h⟩ := Z0.f.isS a0 d0 d1 d2 d3 d4 d5 d6 d7 d8 d9
 unfold Z0.F
 rw [h]
 rfl
def Z0.g : List AV → Option AV
 | [x0, x1] => (i1 x0).bind fun c0 => (dC x1).bind fun c1 => some (.agg [.int (Z0.F c0 c1.f0 c1.f1 c1.f2 c1.f3 c1.f4 c1.f5 c1.f6 c1.f7 c1.f8 c1.f9).1, .int (Z0.F c0 c1.f0 c1.f1 c1.f2 c1.f3 c1.f4 c1.f5 c1.f6 c1.f7 c1.f8 c1.f9).2.1, .int (Z0.F c0 c1.f0 c1.f1 c1.f2 c1.f3 c1.f4 c1.f5 c1.f6 c1.f7 c1.f8 c1.f9).2.2.1, .int (Z0.F c0 c1.f0 c1.f1 c1.f2 c1.f3 c1.f4 c1.f5 c1.f6 c1.f7 c1.f8 c1.f9).2.2.2.1, .int (Z0.F c0 c1.f0 c1.f1 c1.f2 c1.f3 c1.f4 c1.f5 c1.f6 c1.f7 c1.f8 c1.f9).2.2.2.2.1, .int (Z0.F c0 c1.f0 c1.f1 c1.f2 c1.f3 c1.f4 c1.f5 c1.f6 c1.f7 c1.f8 c1.f9).2.2.2.2.2.1, .int (Z0.F c0 c1.f0 c1.f1 c1.f2 c1.f3 c1.f4 c1.f5 c1.f6 c1.f7 c1.f8 c1.f9).2.2.2.2.2.2.1, .int (Z0.F c0 c1.f0 c1.f1 c1.f2 c1.f3 c1.f4 c1.f5 c1.f6 c1.f7 c1.f8 c1.f9).2.2.2.2.2.2.2.1, .int (Z0.F c0 c1.f0 c1.f1 c1.f2 c1.f3 c1.f4 c1.f5 c1.f6 c1.f7 c1.f8 c1.f9).2.2.2.2.2.2.2.2.1, .bool (Z0.F c0 c1.f0 c1.f1 c1.f2 c1.f3 c1.f4 c1.f5 c1.f6 c1.f7 c1.f8 c1.f9).2.2.2.2.2.2.2.2.2])
 | _ => none
theorem Z0.walk (a0 d0 d1 d2 d3 d4 d5 d6 d7 d8 : Int) (d9 : Bool) : Walk 62 [(88, Z6.g), (89, Z7.g), (90, Z8.g)] 5 900 [.int a0, .agg [.int d0, .int d1, .int d2, .int d3, .int d4, .int d5, .int d6, .int d7, .int d8, .bool d9]] ((.agg [.int (Z0.F a0 d0 d1 d2 d3 d4 d5 d6 d7 d8 d9).1, .int (Z0.F a0 d0 d1 d2 d3 d4 d5 d6 d7 d8 d9).2.1, .int (Z0.F a0 d0 d1 d2 d3 d4 d5 d6 d7 d8 d9).2.2.1, .int (Z0.F a0 d0 d1 d2 d3 d4 d5 d6 d7 d8 d9).2.2.2.1, .int (Z0.F a0 d0 d1 d2 d3 d4 d5 d6 d7 d8 d9).2.2.2.2.1, .int (Z0.F a0 d0 d1 d2 d3 d4 d5 d6 d7 d8 d9).2.2.2.2.2.1, .int (Z0.F a0 d0 d1 d2 d3 d4 d5 d6 d7 d8 d9).2.2.2.2.2.2.1, .int (Z0.F a0 d0 d1 d2 d3 d4 d5 d6 d7 d8 d9).2.2.2.2.2.2.2.1, .int (Z0.F a0 d0 d1 d2 d3 d4 d5 d6 d7 d8 d9).2.2.2.2.2.2.2.2.1, .bool (Z0.F a0 d0 d1 d2 d3 d4 d5 d6 d7 d8 d9).2.2.2.2.2.2.2.2.2] : AV).v R0) := by
 refine w1 fun v O hv hO => ⟨_, _, Tryz.func62, rfl, by kernel_rfl, Nat.le_of_ble_eq_true rfl, ?_⟩
 unfold Z6.g
 generalize hf0 : Z6.F = f0
 unfold Z7.g
 generalize hf1 : Z7.F = f1
 unfold Z8.g
 generalize hf2 : Z8.F = f2
 (try cbv)
 repeat' (apply And.intro <;> (try intro h) <;> (try cbv))
 all_goals (subst hv hO; subst hf0; subst hf1; subst hf2; (try dsimp only [std] at *); (try simp only [nt_] at *)) <;> first | rfl | (simp only [Z0.F, Z0.f, AV.v, AV.vs, Z6.tot, Z7.tot, Z8.tot, nv_, reduceIte, *]; done) | (simp_all (maxSteps := 1000000) [std, Z0.F, Z0.f, AV.v, AV.vs, Z6.tot, Z7.tot, Z8.tot] <;> (repeat' split) <;> first | rfl | omega | (simp_all; done) | (simp_all; omega))
theorem Z0.fn : Fn 62 Z0.g := by
 refine ⟨⟨_, Tryz.func62, rfl, rfl⟩, fun R l v hg w => ?_⟩
 unfold Z0.g at hg
 split at hg
 ·rename_i x0 x1
  obtain ⟨c0, e0, hg⟩ := Option.bind_eq_some_iff.1 hg
  obtain ⟨c1, e1, hg⟩ := Option.bind_eq_some_iff.1 hg
  injection hg with hg
  subst hg
  have := (Z0.walk c0 c1.f0 c1.f1 c1.f2 c1.f3 c1.f4 c1.f5 c1.f6 c1.f7 c1.f8 c1.f9).calls (all_cons Z6.fn (all_cons Z7.fn (all_cons Z8.fn ZX))) w
  simpa only [AV.vs, AV.v, clA, i1_v R e0, dC_v R e1] using this
 ·cases hg
def Z9.f (a0 a1 : Int) : Option (TC) := if a0 = 1 then (some (a0, a1, 0, 0, 0, 0, 0, 0, 0, false)) else (if a0 = 2 then (some (a0, 0, 0, 0, 0, 0, 0, 0, 0, false)) else (some (0, 0, 0, 0, 0, 0, 0, 0, 0, false)))
def Z9.F (a0 a1 : Int) : TC := (Z9.f a0 a1).getD (0, 0, 0, 0, 0, 0, 0, 0, 0, false)
theorem Z9.f.isS (a0 a1 : Int) : ∃ r, Z9.f a0 a1 = some r := by
 unfold Z9.f
 repeat' (first | exact ⟨_, rfl⟩ | (exfalso; omega) | split)
theorem Z9.tot (a0 a1 : Int) : Z9.f a0 a1 = some (Z9.F a0 a1) := by
 obtain ⟨r, h⟩ := Z9.f.isS a0 a1
 unfold Z9.F
 rw [h]
 rfl
def Z9.g : List AV → Option AV
 | [x0, x1] => (i1 x0).bind fun c0 => (i1 x1).bind fun c1 => some (.agg [.int (Z9.F c0 c1).1, .int (Z9.F c0 c1).2.1, .int (Z9.F c0 c1).2.2.1, .int (Z9.F c0 c1).2.2.2.1, .int (Z9.F c0 c1).2.2.2.2.1, .int (Z9.F c0 c1).2.2.2.2.2.1, .int (Z9.F c0 c1).2.2.2.2.2.2.1, .int (Z9.F c0 c1).2.2.2.2.2.2.2.1, .int (Z9.F c0 c1).2.2.2.2.2.2.2.2.1, .bool (Z9.F c0 c1).2.2.2.2.2.2.2.2.2])
 | _ => none
theorem Z9.walk (a0 a1 : Int) : Walk 104 [] 5 900 [.int a0, .int a1] ((.agg [.int (Z9.F a0 a1).1, .int (Z9.F a0 a1).2.1, .int (Z9.F a0 a1).2.2.1, .int (Z9.F a0 a1).2.2.2.1, .int (Z9.F a0 a1).2.2.2.2.1, .int (Z9.F a0 a1).2.2.2.2.2.1, .int (Z9.F a0 a1).2.2.2.2.2.2.1, .int (Z9.F a0 a1).2.2.2.2.2.2.2.1, .int (Z9.F a0 a1).2.2.2.2.2.2.2.2.1, .bool (Z9.F a0 a1).2.2.2.2.2.2.2.2.2] : AV).v R0) := by
 refine w1 fun v O hv hO => ⟨_, _, Tryz.func104, rfl, by kernel_rfl, Nat.le_of_ble_eq_true rfl, ?_⟩
 (try cbv)
 repeat' (apply And.intro <;> (try intro h) <;> (try cbv))
 all_goals (subst hv hO; (try dsimp only [std] at *); (try simp only [nt_] at *)) <;> first | rfl | (simp only [Z9.F, Z9.f, AV.v, AV.vs, nv_, reduceIte, *]; done) | (simp_all (maxSteps := 1000000) [std, Z9.F, Z9.f, AV.v, AV.vs] <;> (repeat' split) <;> first | rfl | omega | (simp_all; done) | (simp_all; omega))
theorem Z9.fn : Fn 104 Z9.g := by
 refine ⟨⟨_, Tryz.func104, rfl, rfl⟩, fun R l v hg w => ?_⟩
 unfold Z9.g at hg
 split at hg
 ·rename_i x0 x1
  obtain ⟨c0, e0, hg⟩ := Option.bind_eq_some_iff.1 hg
  obtain ⟨c1, e1, hg⟩ := Option.bind_eq_some_iff.1 hg
  injection hg with hg
  subst hg
  have := (Z9.walk c0 c1).calls ZX w
  simpa only [AV.vs, AV.v, clA, i1_v R e0, i1_v R e1] using this
 ·cases hg
def Zaa.f (a0 a1 : Int) : Option (TC) := if a0 = 1 then (some (a0, a1, 0, 0, 0, 0, 0, 0, 0, false)) else (if a0 = 2 then (some (a0, 0, 0, 0, 0, 0, 0, 0, 0, false)) else (some (0, 0, 0, 0, 0, 0, 0, 0, 0, false)))
def Zaa.F (a0 a1 : Int) : TC := (Zaa.f a0 a1).getD (0, 0, 0, 0, 0, 0, 0, 0, 0, false)
theorem Zaa.f.isS (a0 a1 : Int) : ∃ r, Zaa.f a0 a1 = some r := by
 unfold Zaa.f
 repeat' (first | exact ⟨_, rfl⟩ | (exfalso; omega) | split)
theorem Zaa.tot (a0 a1 : Int) : Zaa.f a0 a1 = some (Zaa.F a0 a1) := by
 obtain ⟨r, h⟩ := Zaa.f.isS a0 a1
 unfold Zaa.F
 rw [h]
 rfl
def Zaa.g : List AV → Option AV
 | [x0, x1] => (i1 x0).bind fun c0 => (i1 x1).bind fun c1 => some (.agg [.int (Zaa.F c0 c1).1, .int (Zaa.F c0 c1).2.1, .int (Zaa.F c0 c1).2.2.1, .int (Zaa.F c0 c1).2.2.2.1, .int (Zaa.F c0 c1).2.2.2.2.1, .int (Zaa.F c0 c1).2.2.2.2.2.1, .int (Zaa.F c0 c1).2.2.2.2.2.2.1, .int (Zaa.F c0 c1).2.2.2.2.2.2.2.1, .int (Zaa.F c0 c1).2.2.2.2.2.2.2.2.1, .bool (Zaa.F c0 c1).2.2.2.2.2.2.2.2.2])
 | _ => none
theorem Zaa.walk (a0 a1 : Int) : Walk 105 [] 5 900 [.int a0, .int a1] ((.agg [.int (Zaa.F a0 a1).1, .int (Zaa.F a0 a1).2.1, .int (Zaa.F a0 a1).2.2.1, .int (Zaa.F a0 a1).2.2.2.1, .int (Zaa.F a0 a1).2.2.2.2.1, .int (Zaa.F a0 a1).2.2.2.2.2.1, .int (Zaa.F a0 a1).2.2.2.2.2.2.1, .int (Zaa.F a0 a1).2.2.2.2.2.2.2.1, .int (Zaa.F a0 a1).2.2.2.2.2.2.2.2.1, .bool (Zaa.F a0 a1).2.2.2.2.2.2.2.2.2] : AV).v R0) := by
 refine w1 fun v O hv hO => ⟨_, _, Tryz.func105, rfl, by kernel_rfl, Nat.le_of_ble_eq_true rfl, ?_⟩
 (try cbv)
 repeat' (apply And.intro <;> (try intro h) <;> (try cbv))
 all_goals (subst hv hO; (try dsimp only [std] at *); (try simp only [nt_] at *)) <;> first | rfl | (simp only [Zaa.F, Zaa.f, AV.v, AV.vs, nv_, reduceIte, *]; done) | (simp_all (maxSteps := 1000000) [std, Zaa.F, Zaa.f, AV.v, AV.vs] <;> (repeat' split) <;> first | rfl | omega | (simp_all; done) | (simp_all; omega))
theorem Zaa.fn : Fn 105 Zaa.g := by
 refine ⟨⟨_, Tryz.func105, rfl, rfl⟩, fun R l v hg w => ?_⟩
 unfold Zaa.g at hg
 split at hg
 ·rename_i x0 x1
  obtain ⟨c0, e0, hg⟩ := Option.bind_eq_some_iff.1 hg
  obtain ⟨c1, e1, hg⟩ := Option.bind_eq_some_iff.1 hg
  injection hg with hg
  subst hg
  have := (Zaa.walk c0 c1).calls ZX w
  simpa only [AV.vs, AV.v, clA, i1_v R e0, i1_v R e1] using this
 ·cases hg
def Zab.f (a0 a1 a2 : Int) : Option (TC) := if a0 = 1 then (some (a0, a1, a2, 0, 0, 0, 0, 0, 0, false)) else (if a0 = 2 then (some (a0, a1, 0, 0, 0, 0, 0, 0, 0, false)) else (if a0 = 3 then (some (a0, a1, 0, 0, 0, 0, 0, 0, 0, false)) else (some (0, 0, 0, 0, 0, 0, 0, 0, 0, false))))
def Zab.F (a0 a1 a2 : Int) : TC := (Zab.f a0 a1 a2).getD (0, 0, 0, 0, 0, 0, 0, 0, 0, false)
theorem Zab.f.isS (a0 a1 a2 : Int) : ∃ r, Zab.f a0 a1 a2 = some r := by
 unfold Zab.f
 repeat' (first | exact ⟨_, rfl⟩ | (exfalso; omega) | split)
theorem Zab.tot (a0 a1 a2 : Int) : Zab.f a0 a1 a2 = some (Zab.F a0 a1 a2) := by
 obtain ⟨r, h⟩ := Zab.f.isS a0 a1 a2
 unfold Zab.F
 rw [h]
 rfl
def Zab.g : List AV → Option AV
 | [x0, x1, x2] => (i1 x0).bind fun c0 => (i1 x1).bind fun c1 => (i1 x2).bind fun c2 => some (.agg [.int (Zab.F c0 c1 c2).1, .int (Zab.F c0 c1 c2).2.1, .int (Zab.F c0 c1 c2).2.2.1, .int (Zab.F c0 c1 c2).2.2.2.1, .int (Zab.F c0 c1 c2).2.2.2.2.1, .int (Zab.F c0 c1 c2).2.2.2.2.2.1, .int (Zab.F c0 c1 c2).2.2.2.2.2.2.1, .int (Zab.F c0 c1 c2).2.2.2.2.2.2.2.1, .int (Zab.F c0 c1 c2).2.2.2.2.2.2.2.2.1, .bool (Zab.F c0 c1 c2).2.2.2.2.2.2.2.2.2])
 | _ => none
theorem Zab.walk (a0 a1 a2 : Int) : Walk 106 [] 5 900 [.int a0, .int a1, .int a2] ((.agg [.int (Zab.F a0 a1 a2).1, .int (Zab.F a0 a1 a2).2.1, .int (Zab.F a0 a1 a2).2.2.1, .int (Zab.F a0 a1 a2).2.2.2.1, .int (Zab.F a0 a1 a2).2.2.2.2.1, .int (Zab.F a0 a1 a2).2.2.2.2.2.1, .int (Zab.F a0 a1 a2).2.2.2.2.2.2.1, .int (Zab.F a0 a1 a2).2.2.2.2.2.2.2.1, .int (Zab.F a0 a1 a2).2.2.2.2.2.2.2.2.1, .bool (Zab.F a0 a1 a2).2.2.2.2.2.2.2.2.2] : AV).v R0) := by
 refine w1 fun v O hv hO => ⟨_, _, Tryz.func106, rfl, by kernel_rfl, Nat.le_of_ble_eq_true rfl, ?_⟩
 (try cbv)
 repeat' (apply And.intro <;> (try intro h) <;> (try cbv))
 all_goals (subst hv hO; (try dsimp only [std] at *); (try simp only [nt_] at *)) <;> first | rfl | (simp only [Zab.F, Zab.f, AV.v, AV.vs, nv_, reduceIte, *]; done) | (simp_all (maxSteps := 1000000) [std, Zab.F, Zab.f, AV.v, AV.vs] <;> (repeat' split) <;> first | rfl | omega | (simp_all; done) | (simp_all; omega))
theorem Zab.fn : Fn 106 Zab.g := by
 refine ⟨⟨_, Tryz.func106, rfl, rfl⟩, fun R l v hg w => ?_⟩
 unfold Zab.g at hg
 split at hg
 ·rename_i x0 x1 x2
  obtain ⟨c0, e0, hg⟩ := Option.bind_eq_some_iff.1 hg
  obtain ⟨c1, e1, hg⟩ := Option.bind_eq_some_iff.1 hg
  obtain ⟨c2, e2, hg⟩ := Option.bind_eq_some_iff.1 hg
  injection hg with hg
  subst hg
  have := (Zab.walk c0 c1 c2).calls ZX w
  simpa only [AV.vs, AV.v, clA, i1_v R e0, i1_v R e1, i1_v R e2] using this
 ·cases hg
def Zaf.f (a0 d0 d1 d2 d3 d4 d5 d6 d7 d8 : Int) (d9 : Bool) : Option (TC) := if a0 = 1 then ((Z9.f d0 d1).bind fun a7 => (some (a7.1, a7.2.1, a7.2.2.1, a7.2.2.2.1, a7.2.2.2.2.1, a7.2.2.2.2.2.1, a7.2.2.2.2.2.2.1, a7.2.2.2.2.2.2.2.1, a7.2.2.2.2.2.2.2.2.1, a7.2.2.2.2.2.2.2.2.2))) else (if a0 = 2 then ((Zaa.f d0 d1).bind fun a8 => (some (a8.1, a8.2.1, a8.2.2.1, a8.2.2.2.1, a8.2.2.2.2.1, a8.2.2.2.2.2.1, a8.2.2.2.2.2.2.1, a8.2.2.2.2.2.2.2.1, a8.2.2.2.2.2.2.2.2.1, a8.2.2.2.2.2.2.2.2.2))) else ((Zab.f d0 d1 d2).bind fun a9 => (some (a9.1, a9.2.1, a9.2.2.1, a9.2.2.2.1, a9.2.2.2.2.1, a9.2.2.2.2.2.1, a9.2.2.2.2.2.2.1, a9.2.2.2.2.2.2.2.1, a9.2.2.2.2.2.2.2.2.1, a9.2.2.2.2.2.2.2.2.2))))
def Zaf.F (a0 d0 d1 d2 d3 d4 d5 d6 d7 d8 : Int) (d9 : Bool) : TC := (Zaf.f a0 d0 d1 d2 d3 d4 d5 d6 d7 d8 d9).getD (0, 0, 0, 0, 0, 0, 0, 0, 0, false)
theorem Zaf.f.isS (a0 d0 d1 d2 d3 d4 d5 d6 d7 d8 : Int) (d9 : Bool) : ∃ r, Zaf.f a0 d0 d1 d2 d3 d4 d5 d6 d7 d8 d9 = some r := by
 unfold Zaf.f
 (try simp only [Z9.tot, Zaa.tot, Zab.tot, Option.bind_some])
 repeat' (first | exact ⟨_, rfl⟩ | (exfalso; omega) | split)
theorem Zaf.tot (a0 d0 d1 d2 d3 d4 d5 d6 d7 d8 : Int) (d9 : Bool) : Zaf.f a0 d0 d1 d2 d3 d4 d5 d6 d7 d8 d9 = some (Zaf.F a0 d0 d1 d2 d3 d4 d5 d6 d7 d8 d9) := by
 obtain ⟨r, h⟩ := Zaf.f.isS a0 d0 d1 d2 d3 d4 d5 d6 d7 d8 d9
 unfold Zaf.F
 rw [h]
 rfl
def Zaf.g : List AV → Option AV
 | [x0, x1] => (i1 x0).bind fun c0 => (dC x1).bind fun c1 => some (.agg [.int (Zaf.F c0 c1.f0 c1.f1 c1.f2 c1.f3 c1.f4 c1.f5 c1.f6 c1.f7 c1.f8 c1.f9).1, .int (Zaf.F c0 c1.f0 c1.f1 c1.f2 c1.f3 c1.f4 c1.f5 c1.f6 c1.f7 c1.f8 c1.f9).2.1, .int (Zaf.F c0 c1.f0 c1.f1 c1.f2 c1.f3 c1.f4 c1.f5 c1.f6 c1.f7 c1.f8 c1.f9).2.2.1, .int (Zaf.F c0 c1.f0 c1.f1 c1.f2 c1.f3 c1.f4 c1.f5 c1.f6 c1.f7 c1.f8 c1.f9).2.2.2.1, .int (Zaf.F c0 c1.f0 c1.f1 c1.f2 c1.f3 c1.f4 c1.f5 c1.f6 c1.f7 c1.f8 c1.f9).2.2.2.2.1, .int (Zaf.F c0 c1.f0 c1.f1 c1.f2 c1.f3 c1.f4 c1.f5 c1.f6 c1.f7 c1.f8 c1.f9).2.2.2.2.2.1, .int (Zaf.F c0 c1.f0 c1.f1 c1.f2 c1.f3 c1.f4 c1.f5 c1.f6 c1.f7 c1.f8 c1.f9).2.2.2.2.2.2.1, .int (Zaf.F c0 c1.f0 c1.f1 c1.f2 c1.f3 c1.f4 c1.f5 c1.f6 c1.f7 c1.f8 c1.f9).2.2.2.2.2.2.2.1, .int (Zaf.F c0 c1.f0 c1.f1 c1.f2 c1.f3 c1.f4 c1.f5 c1.f6 c1.f7 c1.f8 c1.f9).2.2.2.2.2.2.2.2.1, .bool (Zaf.F c0 c1.f0 c1.f1 c1.f2 c1.f3 c1.f4 c1.f5 c1.f6 c1.f7 c1.f8 c1.f9).2.2.2.2.2.2.2.2.2])
 | _ => none
theorem Zaf.walk (a0 d0 d1 d2 d3 d4 d5 d6 d7 d8 : Int) (d9 : Bool) : Walk 83 [(104, Z9.g), (105, Zaa.g), (106, Zab.g)] 5 900 [.int a0, .agg [.int d0, .int d1, .int d2, .int d3, .int d4, .int d5, .int d6, .int d7, .int d8, .bool d9]] ((.agg [.int (Zaf.F a0 d0 d1 d2 d3 d4 d5 d6 d7 d8 d9).1, .int (Zaf.F a0 d0 d1 d2 d3 d4 d5 d6 d7 d8 d9).2.1, .int (Zaf.F a0 d0 d1 d2 d3 d4 d5 d6 d7 d8 d9).2.2.1, .int (Zaf.F a0 d0 d1 d2 d3 d4 d5 d6 d7 d8 d9).2.2.2.1, .int (Zaf.F a0 d0 d1 d2 d3 d4 d5 d6 d7 d8 d9).2.2.2.2.1, .int (Zaf.F a0 d0 d1 d2 d3 d4 d5 d6 d7 d8 d9).2.2.2.2.2.1, .int (Zaf.F a0 d0 d1 d2 d3 d4 d5 d6 d7 d8 d9).2.2.2.2.2.2.1, .int (Zaf.F a0 d0 d1 d2 d3 d4 d5 d6 d7 d8 d9).2.2.2.2.2.2.2.1, .int (Zaf.F a0 d0 d1 d2 d3 d4 d5 d6 d7 d8 d9).2.2.2.2.2.2.2.2.1, .bool (Zaf.F a0 d0 d1 d2 d3 d4 d5 d6 d7 d8 d9).2.2.2.2.2.2.2.2.2] : AV).v R0) := by
 refine w1 fun v O hv hO => ⟨_, _, Tryz.func83, rfl, by kernel_rfl, Nat.le_of_ble_eq_true rfl, ?_⟩
 unfold Z9.g
 generalize hf0 : Z9.F = f0
 unfold Zaa.g
 generalize hf1 : Zaa.F = f1
 unfold Zab.g
 generalize hf2 : Zab.F = f2
 (try cbv)
 repeat' (apply And.intro <;> (try intro h) <;> (try cbv))
 all_goals (subst hv hO; subst hf0; subst hf1; subst hf2; (try dsimp only [std] at *); (try simp only [nt_] at *)) <;> first | rfl | (simp only [Zaf.F, Zaf.f, AV.v, AV.vs, Z9.tot, Zaa.tot, Zab.tot, nv_, reduceIte, *]; done) | (simp_all (maxSteps := 1000000) [std, Zaf.F, Zaf.f, AV.v, AV.vs, Z9.tot, Zaa.tot, Zab.tot] <;> (repeat' split) <;> first | rfl | omega | (simp_all; done) | (simp_all; omega))
theorem Zaf.fn : Fn 83 Zaf.g := by
 refine ⟨⟨_, Tryz.func83, rfl, rfl⟩, fun R l v hg w => ?_⟩
 unfold Zaf.g at hg
 split at hg
 ·rename_i x0 x1
  obtain ⟨c0, e0, hg⟩ := Option.bind_eq_some_iff.1 hg
  obtain ⟨c1, e1, hg⟩ := Option.bind_eq_some_iff.1 hg
  injection hg with hg
  subst hg
  have := (Zaf.walk c0 c1.f0 c1.f1 c1.f2 c1.f3 c1.f4 c1.f5 c1.f6 c1.f7 c1.f8 c1.f9).calls (all_cons Z9.fn (all_cons Zaa.fn (all_cons Zab.fn ZX))) w
  simpa only [AV.vs, AV.v, clA, i1_v R e0, dC_v R e1] using this
 ·cases hg
end Go.Proofs.YtgghglocfdcegaaGreat.Xec
