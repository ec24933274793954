/- The row of the law FnExactCrewOk: whatever the arguments hold, it returns true, and they read as they did. Out of the contract of the law's function and its pure statement. No condition. -/
import Derived.Test.YtndkfjecipjiaaaRows
import Derived.Test.YtndkfjecipjiaaaPFnExactCrewOkx11
import Derived.Test.YtndkfjecipjiaaaPureFnExactCrewOk
import Derived.Test.YtndkfjecipjiaaaOpnCrewOk
import Derived.WalkKit
import Derived.ProofKit
import Derived.OpenShut
import Derived.ShutString
import Derived.ChangeOld
import Derived.Below
import Derived.SizedLaws
import Derived.Carry
namespace Go.Proofs.Ytndkfjecipjiaaa.fnExactCrewOk
open Go.ChangeShapes Go.WideShapes Go.ChangeAt Go.RowKit Go.Proofs.Ytndkfjecipjiaaa.PFnExactCrewOk Go.Proofs.YtndkfjecipjiaaaW.PrintWords
set_option linter.unusedVariables false
theorem own : ownKnob Try.prog.godebug = none := by kernel_rfl
theorem laidOut : laidOutB Try.prog = true := by kernel_rfl
theorem open_T106 : Opn.Opens Try.prog 106 k106 wfT106 := by
  have h := Opn.opens_struct Try.underlying106 (by kernel_rfl) (Opn.fields_cons (Opn.opens_int Try.underlying3 (by kernel_rfl)) rfl (Opn.fields_cons (Opn.opens_int Try.underlying3 (by kernel_rfl)) rfl (Opn.fields_cons (Opn.opens_int Try.underlying3 (by kernel_rfl)) rfl (Opn.fields_cons (Opn.opens_int Try.underlying3 (by kernel_rfl)) rfl (Opn.fields_cons (Opn.opens_int Try.underlying3 (by kernel_rfl)) rfl (Opn.fields_cons (Opn.opens_int Try.underlying3 (by kernel_rfl)) rfl (Opn.fields_cons (Opn.opens_int Try.underlying3 (by kernel_rfl)) rfl (Opn.fields_cons (Opn.opens_int Try.underlying3 (by kernel_rfl)) rfl (Opn.fields_cons (Opn.opens_int Try.underlying3 (by kernel_rfl)) rfl (Opn.fields_one (Opn.opens_bool Try.underlying4 (by kernel_rfl)) rfl))))))))))
  exact Opn.opens_iso (f := fun x : S106 => (x.f0, x.f1, x.f2, x.f3, x.f4, x.f5, x.f6, x.f7, x.f8, x.f9)) (g := fun y => (⟨y.1, y.2.1, y.2.2.1, y.2.2.2.1, y.2.2.2.2.1, y.2.2.2.2.2.1, y.2.2.2.2.2.2.1, y.2.2.2.2.2.2.2.1, y.2.2.2.2.2.2.2.2.1, y.2.2.2.2.2.2.2.2.2⟩ : S106)) h (fun _ => rfl)
theorem open_T50 : Opn.Opens Try.prog 50 k50 wfT50 := by
  have h := Opn.opens_struct Try.underlying50 (by kernel_rfl) (Opn.fields_cons (Opn.opens_slice Try.underlying48 (by kernel_rfl) open_T106) rfl (Opn.fields_cons (Opn.opens_int Try.underlying3 (by kernel_rfl)) rfl (Opn.fields_cons (Opn.opens_slice Try.underlying24 (by kernel_rfl) (Opn.opens_int Try.underlying3 (by kernel_rfl))) rfl (Opn.fields_one (Opn.opens_slice Try.underlying24 (by kernel_rfl) (Opn.opens_int Try.underlying3 (by kernel_rfl))) rfl))))
  exact Opn.opens_iso (f := fun x : S50 => (x.f0, x.f1, x.f2, x.f3)) (g := fun y => (⟨y.1, y.2.1, y.2.2.1, y.2.2.2⟩ : S50)) h (fun _ => rfl)
set_option maxRecDepth 100000 in
theorem lifted (os : Os) (started : os.Started) (H : Type) (enc : TypeId × Value → H) :
    ReturnsInHanded {} Try.checked os 4 .any (Rows.fnExactCrewOkSpec.pre6 enc Try.prog Try.f4 Rows.fnExactCrewOkRow.domain false) (Rows.fnExactCrewOkSpec.post enc Try.prog Try.f4 false true false false) := by
  refine returnsInHanded_of_change_sized (C := Try.checked) own started (by kernel_rfl) Try.func4
    (ChangeSpec.witness6 (enc := enc) (C := Try.checked) false ⟨#[], #[.agg #[.int .i64 0, .int .i64 0, .slice none 0 0, .slice none 0 0, .int .i64 0]], []⟩ 8 (by kernel_rfl) (by kernel_rfl) (by kernel_rfl) (by kernel_rfl)) ?_
  intro W base args ds gs before hval0 hW hcnd hsz0 _
  have hval : ∀ (j : Nat) t v, Try.f4.params[j]? = some t → args[j]? = some v → Value.okWide Try.prog W .any base t v := hval0
  have hW' := hW
  obtain ⟨p, q, hA0, hV, rfl, hfz, hnd⟩ := hW
  have hA : DataW.TrodAll enc Try.prog W 0 (fun _ => true) true Try.f4.params.toList args.toList ds p := hA0
  rw [Try.params4] at hA hval
  obtain ⟨v0, vs0, d0, ds0, p0, q0, hargs, rfl, rfl, h0, r0⟩ := trodAll_cons hA
  obtain ⟨rfl, rfl, rfl⟩ := trodAll_nil r0
  obtain rfl : args = #[v0] := by cases args; simp_all
  obtain ⟨rfl, rfl⟩ := trodVars_none hV
  have k0 := h0
  have lt0 : ∀ x ∈ p0, x.block < W.heap.size := by obtain ⟨m, hm⟩ := k0; exact DataW.trod_lt m _ _ _ hm
  obtain ⟨cs0, rfl, ⟨a0_0, a0_1, l0_2, l0_3, a0_4⟩, K0, w0⟩ := Opn.open_agg Try.underlying40 (Opn.opens_struct Try.underlying40 (by kernel_rfl) (Opn.fields_cons (Opn.opens_int Try.underlying3 (by kernel_rfl)) rfl (Opn.fields_cons (Opn.opens_int Try.underlying3 (by kernel_rfl)) rfl (Opn.fields_cons (Opn.opens_struct Try.underlying38 (by kernel_rfl) (Opn.fields_one (Opn.opens_slice Try.underlying24 (by kernel_rfl) (Opn.opens_int Try.underlying3 (by kernel_rfl))) rfl)) rfl (Opn.fields_cons (Opn.opens_slice Try.underlying22 (by kernel_rfl) open_T50) rfl (Opn.fields_one (Opn.opens_int Try.underlying3 (by kernel_rfl)) rfl)))))) (hval 0 40 v0 rfl rfl) h0
  obtain ⟨_, _, rfl, rfl, ⟨_, _, rfl, rfl, ⟨_, _, rfl, ⟨A0_2, c0_2, rfl, hc0_2, hr0_2⟩, ⟨_, _, rfl, ⟨A0_3, c0_3, rfl, hc0_3, hr0_3⟩, rfl⟩⟩⟩⟩ := K0
  clear hA0 hval0 hsz0
  obtain ⟨k, hk⟩ := Pure.FnExactCrewOk a0_0 a0_1 l0_2 l0_3 a0_4 w0
  refine (laws_FnExactCrewOk.calls k a0_0 a0_1 A0_2 c0_2 l0_2 A0_3 c0_3 l0_3 a0_4 true W hr0_2 hc0_2 hr0_3 hc0_3 hk).mono fun e W' ⟨he, hb⟩ => ?_
  subst he
  have bel := hb
  exact ⟨_, rfl, _, _, _, [], _, [], hW', trodAll_mk1 (shut_bool Try.underlying4 _), (trodAll_cons_mk (Below.trod laidOut (by kernel_rfl) (of_decide_eq_true (by kernel_rfl)) k0 bel lt0) trodAll_mk0), rfl, bel.frame _, fun h => by cases h⟩
theorem over : Rows.fnExactCrewOkRow.holds Try.pinned (OpenSpec.ofChange Rows.fnExactCrewOkSpec) :=
  OpenClaim.holds_of_wide 4 Try.f4 rfl rfl rfl rfl rfl rfl rfl ⟨rfl, rfl, rfl, rfl, rfl⟩ rfl rfl rfl rfl rfl (by kernel_rfl) Try.func4 (by kernel_rfl)
    (of_decide_eq_true (by kernel_rfl)) (by unfold Func.isWrapper; first | (rw [if_pos (by decide +kernel)]; kernel_rfl) | (rw [if_neg (by decide +kernel)]; exact ⟨rfl, rfl⟩))
    (fun os started H enc _ => lifted os started H enc)
theorem proved : Rows.FnExactCrewOkSaid := over
#print axioms proved
end Go.Proofs.Ytndkfjecipjiaaa.fnExactCrewOk
namespace Go.Proofs.Ytndkfjecipjiaaa
/-- The row, under a short name, for the claim. -/
theorem fnExactCrewOk_holds : Rows.FnExactCrewOkSaid := fnExactCrewOk.proved
end Go.Proofs.Ytndkfjecipjiaaa
