/- The row of the law FnExactCrewNew: whatever the arguments hold, it returns true, and they read as they did. Out of the contract of the law's function and its pure statement. No condition. -/
import Derived.Test.YtgghglocfdcegaaRows
import Derived.Test.YtgghglocfdcegaaPFnExactCrewNewx10
import Derived.Test.YtgghglocfdcegaaPureFnExactCrewNew
import Derived.Test.YtgghglocfdcegaaOpnCrewNew
import Derived.WalkKit
import Derived.ProofKit
import Derived.OpenShut
import Derived.ShutString
import Derived.ChangeOld
import Derived.Below
import Derived.SizedLaws
import Derived.Carry
namespace Go.Proofs.Ytgghglocfdcegaa.fnExactCrewNew
open Go.ChangeShapes Go.WideShapes Go.ChangeAt Go.RowKit Go.Proofs.Ytgghglocfdcegaa.PFnExactCrewNew Go.Proofs.YtgghglocfdcegaaW.PrintWords
set_option linter.unusedVariables false
theorem own : ownKnob Try.prog.godebug = none := by kernel_rfl
theorem laidOut : laidOutB Try.prog = true := by kernel_rfl
theorem open_T106 : Opn.Opens Try.prog 106 k106 wfT106 := by
  have h := Opn.opens_struct Try.underlying106 (by kernel_rfl) (Opn.fields_cons (Opn.opens_int Try.underlying3 (by kernel_rfl)) rfl (Opn.fields_cons (Opn.opens_int Try.underlying3 (by kernel_rfl)) rfl (Opn.fields_cons (Opn.opens_int Try.underlying3 (by kernel_rfl)) rfl (Opn.fields_cons (Opn.opens_int Try.underlying3 (by kernel_rfl)) rfl (Opn.fields_cons (Opn.opens_int Try.underlying3 (by kernel_rfl)) rfl (Opn.fields_cons (Opn.opens_int Try.underlying3 (by kernel_rfl)) rfl (Opn.fields_cons (Opn.opens_int Try.underlying3 (by kernel_rfl)) rfl (Opn.fields_cons (Opn.opens_int Try.underlying3 (by kernel_rfl)) rfl (Opn.fields_cons (Opn.opens_int Try.underlying3 (by kernel_rfl)) rfl (Opn.fields_one (Opn.opens_bool Try.underlying4 (by kernel_rfl)) rfl))))))))))
  exact Opn.opens_iso (f := fun x : S106 => (x.f0, x.f1, x.f2, x.f3, x.f4, x.f5, x.f6, x.f7, x.f8, x.f9)) (g := fun y => (⟨y.1, y.2.1, y.2.2.1, y.2.2.2.1, y.2.2.2.2.1, y.2.2.2.2.2.1, y.2.2.2.2.2.2.1, y.2.2.2.2.2.2.2.1, y.2.2.2.2.2.2.2.2.1, y.2.2.2.2.2.2.2.2.2⟩ : S106)) h (fun _ => rfl)
theorem open_T50 : Opn.Opens Try.prog 50 k50 wfT50 := by
  have h := Opn.opens_struct Try.underlying50 (by kernel_rfl) (Opn.fields_cons (Opn.opens_slice Try.underlying48 (by kernel_rfl) open_T106) rfl (Opn.fields_cons (Opn.opens_int Try.underlying3 (by kernel_rfl)) rfl (Opn.fields_cons (Opn.opens_slice Try.underlying24 (by kernel_rfl) (Opn.opens_int Try.underlying3 (by kernel_rfl))) rfl (Opn.fields_one (Opn.opens_slice Try.underlying24 (by kernel_rfl) (Opn.opens_int Try.underlying3 (by kernel_rfl))) rfl))))
  exact Opn.opens_iso (f := fun x : S50 => (x.f0, x.f1, x.f2, x.f3)) (g := fun y => (⟨y.1, y.2.1, y.2.2.1, y.2.2.2⟩ : S50)) h (fun _ => rfl)
set_option maxRecDepth 100000 in
theorem lifted (os : Os) (started : os.Started) (H : Type) (enc : TypeId × Value → H) :
    ReturnsInHanded {} Try.checked os 3 .any (Rows.fnExactCrewNewSpec.pre6 enc Try.prog Try.f3 Rows.fnExactCrewNewRow.domain false) (Rows.fnExactCrewNewSpec.post enc Try.prog Try.f3 false true false false) := by
  refine returnsInHanded_of_change_sized (C := Try.checked) own started (by kernel_rfl) Try.func3
    (ChangeSpec.witness6 (enc := enc) (C := Try.checked) false ⟨#[], #[.int .i64 0, .int .i64 0, .bool false, .slice none 0 0], []⟩ 8 (by kernel_rfl) (by kernel_rfl) (by kernel_rfl) (by kernel_rfl)) ?_
  intro W base args ds gs before hval0 hW hcnd hsz0 _
  have hval : ∀ (j : Nat) t v, Try.f3.params[j]? = some t → args[j]? = some v → Value.okWide Try.prog W .any base t v := hval0
  have hW' := hW
  obtain ⟨p, q, hA0, hV, rfl, hfz, hnd⟩ := hW
  have hA : DataW.TrodAll enc Try.prog W 0 (fun _ => true) true Try.f3.params.toList args.toList ds p := hA0
  rw [Try.params3] at hA hval
  obtain ⟨v0, vs0, d0, ds0, p0, q0, hargs, rfl, rfl, h0, r0⟩ := trodAll_cons hA
  obtain ⟨v1, vs1, d1, ds1, p1, q1, rfl, rfl, rfl, h1, r1⟩ := trodAll_cons r0
  obtain ⟨v2, vs2, d2, ds2, p2, q2, rfl, rfl, rfl, h2, r2⟩ := trodAll_cons r1
  obtain ⟨v3, vs3, d3, ds3, p3, q3, rfl, rfl, rfl, h3, r3⟩ := trodAll_cons r2
  obtain ⟨rfl, rfl, rfl⟩ := trodAll_nil r3
  obtain rfl : args = #[v0, v1, v2, v3] := by cases args; simp_all
  obtain ⟨rfl, rfl⟩ := trodVars_none hV
  obtain ⟨a0, rfl, rfl, rfl, w0⟩ := open_int Try.underlying3 (hval 0 3 v0 rfl rfl) h0
  obtain ⟨a1, rfl, rfl, rfl, w1⟩ := open_int Try.underlying3 (hval 1 3 v1 rfl rfl) h1
  obtain ⟨a2, rfl, rfl, rfl⟩ := open_bool Try.underlying4 (hval 2 4 v2 rfl rfl) h2
  have k3 := h3
  have lt3 : ∀ x ∈ p3, x.block < W.heap.size := by obtain ⟨m, hm⟩ := k3; exact DataW.trod_lt m _ _ _ hm
  obtain ⟨A3, l3, c3, rfl, hr3, hc3, w3⟩ := Opn.open_row_ Try.underlying22 (Opn.opens_slice Try.underlying22 (by kernel_rfl) open_T50) (hval 3 22 v3 rfl rfl) h3
  clear hA0 hval0 hsz0
  have hq : Calls Try.prog 3 #[.int .i64 a0, .int .i64 a1, .bool a2, .slice A3 l3.length c3] W fun e w' => e = .returned (.bool true) ∧ Below W.heap.size W w' := by
    rcases Pure.FnExactCrewNew a0 a1 a2 l3 ⟨w0, w1, w3⟩ with ⟨k, s, p1, hs⟩ | ⟨k, s, t, r1, r2, r3, r4, r5, r6, q1, q2, q3, q4, q5, m1, L1, b, lm, m, L, p1, hs, p2, p3, p4, p5, p6, p7, h7, p8, p9, p10, h10⟩
    · exact laws_FnExactCrewNew.small k a0 a1 a2 A3 c3 l3 s W hr3 hc3 p1 hs
    · exact laws_FnExactCrewNew.go k a0 a1 a2 A3 c3 l3 s t r1 r2 r3 r4 r5 r6 q1 q2 q3 q4 q5 m1 L1 b lm m L W hr3 hc3 p1 hs p2 p3 p4 p5 p6 p7 h7 p8 p9 p10 h10
  refine (hq).mono fun e W' ⟨he, hb⟩ => ?_
  subst he
  have bel := hb
  exact ⟨_, rfl, _, _, _, [], _, [], hW', trodAll_mk1 (shut_bool Try.underlying4 _), (trodAll_cons_mk (shut_int Try.underlying3 w0) (trodAll_cons_mk (shut_int Try.underlying3 w1) (trodAll_cons_mk (shut_bool Try.underlying4 _) (trodAll_cons_mk (Below.trod laidOut (by kernel_rfl) (of_decide_eq_true (by kernel_rfl)) k3 bel lt3) trodAll_mk0)))), rfl, bel.frame _, fun h => by cases h⟩
theorem over : Rows.fnExactCrewNewRow.holds Try.pinned (OpenSpec.ofChange Rows.fnExactCrewNewSpec) :=
  OpenClaim.holds_of_wide 3 Try.f3 rfl rfl rfl rfl rfl rfl rfl ⟨rfl, rfl, rfl, rfl, rfl⟩ rfl rfl rfl rfl rfl (by kernel_rfl) Try.func3 (by kernel_rfl)
    (of_decide_eq_true (by kernel_rfl)) (by unfold Func.isWrapper; first | (rw [if_pos (by decide +kernel)]; kernel_rfl) | (rw [if_neg (by decide +kernel)]; exact ⟨rfl, rfl⟩))
    (fun os started H enc _ => lifted os started H enc)
theorem proved : Rows.FnExactCrewNewSaid := over
#print axioms proved
end Go.Proofs.Ytgghglocfdcegaa.fnExactCrewNew
namespace Go.Proofs.Ytgghglocfdcegaa
/-- The row, under a short name, for the claim. -/
theorem fnExactCrewNew_holds : Rows.FnExactCrewNewSaid := fnExactCrewNew.proved
end Go.Proofs.Ytgghglocfdcegaa
