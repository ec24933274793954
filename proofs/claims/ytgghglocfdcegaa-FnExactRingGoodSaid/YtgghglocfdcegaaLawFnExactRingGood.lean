/- The row of the law FnExactRingGood: whatever the arguments hold, it returns true, and they read as they did. Out of the contract of the law's function and its pure statement. No condition. -/
import Derived.Test.YtgghglocfdcegaaRows
import Derived.Test.YtgghglocfdcegaaPFnExactRingGoodx4
import Derived.Test.YtgghglocfdcegaaPureFnExactRingGood
import Derived.Test.YtgghglocfdcegaaOpn
import Derived.WalkKit
import Derived.ProofKit
import Derived.OpenShut
import Derived.ShutString
import Derived.ChangeOld
import Derived.Below
import Derived.SizedLaws
import Derived.Carry
namespace Go.Proofs.Ytgghglocfdcegaa.fnExactRingGood
open Go.ChangeShapes Go.WideShapes Go.ChangeAt Go.RowKit Go.Proofs.Ytgghglocfdcegaa.PFnExactRingGood Go.Proofs.YtgghglocfdcegaaW.PrintWords
set_option linter.unusedVariables false
theorem own : ownKnob Try.prog.godebug = none := by kernel_rfl
theorem laidOut : laidOutB Try.prog = true := by kernel_rfl
theorem open_T92 : Opn.Opens Try.prog 92 k92 wfT92 := by
  have h := Opn.opens_struct Try.underlying92 (by kernel_rfl) (Opn.fields_cons (Opn.opens_int Try.underlying3 (by kernel_rfl)) rfl (Opn.fields_cons (Opn.opens_int Try.underlying3 (by kernel_rfl)) rfl (Opn.fields_cons (Opn.opens_int Try.underlying3 (by kernel_rfl)) rfl (Opn.fields_cons (Opn.opens_int Try.underlying3 (by kernel_rfl)) rfl (Opn.fields_cons (Opn.opens_int Try.underlying3 (by kernel_rfl)) rfl (Opn.fields_cons (Opn.opens_int Try.underlying3 (by kernel_rfl)) rfl (Opn.fields_cons (Opn.opens_int Try.underlying3 (by kernel_rfl)) rfl (Opn.fields_one (Opn.opens_int Try.underlying3 (by kernel_rfl)) rfl))))))))
  exact Opn.opens_iso (f := fun x : S92 => (x.f0, x.f1, x.f2, x.f3, x.f4, x.f5, x.f6, x.f7)) (g := fun y => (⟨y.1, y.2.1, y.2.2.1, y.2.2.2.1, y.2.2.2.2.1, y.2.2.2.2.2.1, y.2.2.2.2.2.2.1, y.2.2.2.2.2.2.2⟩ : S92)) h (fun _ => rfl)
set_option maxRecDepth 100000 in
theorem lifted (os : Os) (started : os.Started) (H : Type) (enc : TypeId × Value → H) :
    ReturnsInHanded {} Try.checked os 10 .any (Rows.fnExactRingGoodSpec.pre6 enc Try.prog Try.f10 Rows.fnExactRingGoodRow.domain false) (Rows.fnExactRingGoodSpec.post enc Try.prog Try.f10 false true false false) := by
  refine returnsInHanded_of_change_sized (C := Try.checked) own started (by kernel_rfl) Try.func10
    (ChangeSpec.witness6 (enc := enc) (C := Try.checked) false ⟨#[], #[.slice none 0 0, .slice none 0 0], []⟩ 8 (by kernel_rfl) (by kernel_rfl) (by kernel_rfl) (by kernel_rfl)) ?_
  intro W base args ds gs before hval0 hW hcnd hsz0 _
  have hval : ∀ (j : Nat) t v, Try.f10.params[j]? = some t → args[j]? = some v → Value.okWide Try.prog W .any base t v := hval0
  have hW' := hW
  obtain ⟨p, q, hA0, hV, rfl, hfz, hnd⟩ := hW
  have hA : DataW.TrodAll enc Try.prog W 0 (fun _ => true) true Try.f10.params.toList args.toList ds p := hA0
  rw [Try.params10] at hA hval
  obtain ⟨v0, vs0, d0, ds0, p0, q0, hargs, rfl, rfl, h0, r0⟩ := trodAll_cons hA
  obtain ⟨v1, vs1, d1, ds1, p1, q1, rfl, rfl, rfl, h1, r1⟩ := trodAll_cons r0
  obtain ⟨rfl, rfl, rfl⟩ := trodAll_nil r1
  obtain rfl : args = #[v0, v1] := by cases args; simp_all
  obtain ⟨rfl, rfl⟩ := trodVars_none hV
  have k0 := h0
  have lt0 : ∀ x ∈ p0, x.block < W.heap.size := by obtain ⟨m, hm⟩ := k0; exact DataW.trod_lt m _ _ _ hm
  obtain ⟨A0, l0, c0, rfl, hr0, hc0, w0⟩ := Opn.open_row_ Try.underlying64 (Opn.opens_slice Try.underlying64 (by kernel_rfl) open_T92) (hval 0 64 v0 rfl rfl) h0
  have k1 := h1
  have lt1 : ∀ x ∈ p1, x.block < W.heap.size := by obtain ⟨m, hm⟩ := k1; exact DataW.trod_lt m _ _ _ hm
  obtain ⟨A1, l1, c1, rfl, hr1, hc1, w1⟩ := Opn.open_row_ Try.underlying24 (Opn.opens_slice Try.underlying24 (by kernel_rfl) (Opn.opens_int Try.underlying3 (by kernel_rfl))) (hval 1 24 v1 rfl rfl) h1
  clear hA0 hval0 hsz0
  obtain ⟨k, hk⟩ := Pure.FnExactRingGood l0 l1 w0 w1
  refine (laws_FnExactRingGood.calls k A0 c0 l0 A1 c1 l1 true W hr0 hc0 hr1 hc1 hk).mono fun e W' ⟨he, hb⟩ => ?_
  subst he
  have bel := hb
  exact ⟨_, rfl, _, _, _, [], _, [], hW', trodAll_mk1 (shut_bool Try.underlying4 _), (trodAll_cons_mk (Below.trod laidOut (by kernel_rfl) (of_decide_eq_true (by kernel_rfl)) k0 bel lt0) (trodAll_cons_mk (Below.trod laidOut (by kernel_rfl) (of_decide_eq_true (by kernel_rfl)) k1 bel lt1) trodAll_mk0)), rfl, bel.frame _, fun h => by cases h⟩
theorem over : Rows.fnExactRingGoodRow.holds Try.pinned (OpenSpec.ofChange Rows.fnExactRingGoodSpec) :=
  OpenClaim.holds_of_wide 10 Try.f10 rfl rfl rfl rfl rfl rfl rfl ⟨rfl, rfl, rfl, rfl, rfl⟩ rfl rfl rfl rfl rfl (by kernel_rfl) Try.func10 (by kernel_rfl)
    (of_decide_eq_true (by kernel_rfl)) (by unfold Func.isWrapper; first | (rw [if_pos (by decide +kernel)]; kernel_rfl) | (rw [if_neg (by decide +kernel)]; exact ⟨rfl, rfl⟩))
    (fun os started H enc _ => lifted os started H enc)
theorem proved : Rows.FnExactRingGoodSaid := over
#print axioms proved
end Go.Proofs.Ytgghglocfdcegaa.fnExactRingGood
namespace Go.Proofs.Ytgghglocfdcegaa
/-- The row, under a short name, for the claim. -/
theorem fnExactRingGood_holds : Rows.FnExactRingGoodSaid := fnExactRingGood.proved
end Go.Proofs.Ytgghglocfdcegaa
