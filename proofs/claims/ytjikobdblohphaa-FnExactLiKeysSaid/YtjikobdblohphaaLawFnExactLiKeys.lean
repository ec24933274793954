/- The row of the law FnExactLiKeys: whatever the arguments hold, it returns true, and they read as they did. Out of the contract of the law's function and its pure statement. No condition. -/
import Derived.Test.YtjikobdblohphaaRows
import Derived.Test.YtjikobdblohphaaPFnExactLiKeysx3
import Derived.Test.YtjikobdblohphaaPureFnExactLiKeys
import Derived.Test.YtjikobdblohphaaOpn
import Derived.WalkKit
import Derived.ProofKit
import Derived.OpenShut
import Derived.ShutString
import Derived.ChangeOld
import Derived.Below
import Derived.SizedLaws
import Derived.Carry
namespace Go.Proofs.Ytjikobdblohphaa.fnExactLiKeys
open Go.ChangeShapes Go.WideShapes Go.ChangeAt Go.RowKit Go.Proofs.Ytjikobdblohphaa.PFnExactLiKeys Go.Proofs.YtjikobdblohphaaW.PrintWords
set_option linter.unusedVariables false
theorem own : ownKnob Try.prog.godebug = none := by kernel_rfl
theorem laidOut : laidOutB Try.prog = true := by kernel_rfl
set_option maxRecDepth 100000 in
theorem lifted (os : Os) (started : os.Started) (H : Type) (enc : TypeId × Value → H) :
    ReturnsInHanded {} Try.checked os 7 .any (Rows.fnExactLiKeysSpec.pre6 enc Try.prog Try.f7 Rows.fnExactLiKeysRow.domain false) (Rows.fnExactLiKeysSpec.post enc Try.prog Try.f7 false true false false) := by
  refine returnsInHanded_of_change_sized (C := Try.checked) own started (by kernel_rfl) Try.func7
    (ChangeSpec.witness6 (enc := enc) (C := Try.checked) false ⟨#[], #[.int .i64 0, .agg #[.slice none 0 0]], []⟩ 8 (by kernel_rfl) (by kernel_rfl) (by kernel_rfl) (by kernel_rfl)) ?_
  intro W base args ds gs before hval0 hW hcnd hsz0 _
  have hval : ∀ (j : Nat) t v, Try.f7.params[j]? = some t → args[j]? = some v → Value.okWide Try.prog W .any base t v := hval0
  have hW' := hW
  obtain ⟨p, q, hA0, hV, rfl, hfz, hnd⟩ := hW
  have hA : DataW.TrodAll enc Try.prog W 0 (fun _ => true) true Try.f7.params.toList args.toList ds p := hA0
  rw [Try.params7] at hA hval
  obtain ⟨v0, vs0, d0, ds0, p0, q0, hargs, rfl, rfl, h0, r0⟩ := trodAll_cons hA
  obtain ⟨v1, vs1, d1, ds1, p1, q1, rfl, rfl, rfl, h1, r1⟩ := trodAll_cons r0
  obtain ⟨rfl, rfl, rfl⟩ := trodAll_nil r1
  obtain rfl : args = #[v0, v1] := by cases args; simp_all
  obtain ⟨rfl, rfl⟩ := trodVars_none hV
  obtain ⟨a0, rfl, rfl, rfl, w0⟩ := open_int Try.underlying3 (hval 0 3 v0 rfl rfl) h0
  have k1 := h1
  have lt1 : ∀ x ∈ p1, x.block < W.heap.size := by obtain ⟨m, hm⟩ := k1; exact DataW.trod_lt m _ _ _ hm
  obtain ⟨cs1, rfl, l1_0, K1, w1⟩ := Opn.open_agg Try.underlying43 (Opn.opens_struct Try.underlying43 (by kernel_rfl) (Opn.fields_one (Opn.opens_slice Try.underlying27 (by kernel_rfl) (Opn.opens_int Try.underlying3 (by kernel_rfl))) rfl)) (hval 1 43 v1 rfl rfl) h1
  obtain ⟨A1_0, c1_0, rfl, hc1_0, hr1_0⟩ := K1
  clear hA0 hval0 hsz0
  obtain ⟨k, hk⟩ := Pure.FnExactLiKeys a0 l1_0 w0 w1
  refine (laws_FnExactLiKeys.calls k a0 A1_0 c1_0 l1_0 true W hr1_0 hc1_0 hk).mono fun e W' ⟨he, hb⟩ => ?_
  subst he
  have bel := hb
  exact ⟨_, rfl, _, _, _, [], _, [], hW', trodAll_mk1 (shut_bool Try.underlying4 _), (trodAll_cons_mk (shut_int Try.underlying3 w0) (trodAll_cons_mk (Below.trod laidOut (by kernel_rfl) (of_decide_eq_true (by kernel_rfl)) k1 bel lt1) trodAll_mk0)), rfl, bel.frame _, fun h => by cases h⟩
theorem over : Rows.fnExactLiKeysRow.holds Try.pinned (OpenSpec.ofChange Rows.fnExactLiKeysSpec) :=
  OpenClaim.holds_of_wide 7 Try.f7 rfl rfl rfl rfl rfl rfl rfl ⟨rfl, rfl, rfl, rfl, rfl⟩ rfl rfl rfl rfl rfl (by kernel_rfl) Try.func7 (by kernel_rfl)
    (of_decide_eq_true (by kernel_rfl)) (by unfold Func.isWrapper; first | (rw [if_pos (by decide +kernel)]; kernel_rfl) | (rw [if_neg (by decide +kernel)]; exact ⟨rfl, rfl⟩))
    (fun os started H enc _ => lifted os started H enc)
theorem proved : Rows.FnExactLiKeysSaid := over
#print axioms proved
end Go.Proofs.Ytjikobdblohphaa.fnExactLiKeys
namespace Go.Proofs.Ytjikobdblohphaa
/-- The row, under a short name, for the claim. -/
theorem fnExactLiKeys_holds : Rows.FnExactLiKeysSaid := fnExactLiKeys.proved
end Go.Proofs.Ytjikobdblohphaa
