/- The row of the law FnExactLiStep: whatever the arguments hold, it returns true, and they read as they did. Out of the contract of the law's function and its pure statement. No condition. -/
import Derived.Test.YtjikobdblohphaaRows
import Derived.Test.YtjikobdblohphaaPFnExactLiStepx12
import Derived.Test.YtjikobdblohphaaPureFnExactLiStep
import Derived.Test.YtjikobdblohphaaOpnLiStep
import Derived.WalkKit
import Derived.ProofKit
import Derived.OpenShut
import Derived.ShutString
import Derived.ChangeOld
import Derived.Below
import Derived.SizedLaws
import Derived.Carry
namespace Go.Proofs.Ytjikobdblohphaa.fnExactLiStep
open Go.ChangeShapes Go.WideShapes Go.ChangeAt Go.RowKit Go.Proofs.Ytjikobdblohphaa.PFnExactLiStep Go.Proofs.YtjikobdblohphaaW.PrintWords
set_option linter.unusedVariables false
theorem own : ownKnob Try.prog.godebug = none := by kernel_rfl
theorem laidOut : laidOutB Try.prog = true := by kernel_rfl
set_option maxRecDepth 100000 in
theorem lifted (os : Os) (started : os.Started) (H : Type) (enc : TypeId × Value → H) :
    ReturnsInHanded {} Try.checked os 6 .any (Rows.fnExactLiStepSpec.pre6 enc Try.prog Try.f6 Rows.fnExactLiStepRow.domain false) (Rows.fnExactLiStepSpec.post enc Try.prog Try.f6 false true false false) := by
  refine returnsInHanded_of_change_sized (C := Try.checked) own started (by kernel_rfl) Try.func6
    (ChangeSpec.witness6 (enc := enc) (C := Try.checked) false ⟨#[], #[.int .i64 0, .agg #[.slice none 0 0], .agg #[.int .i64 0, .int .i64 0, .int .i64 0, .int .i64 0, .int .i64 0, .int .i64 0, .int .i64 0, .int .i64 0, .int .i64 0, .bool false]], []⟩ 8 (by kernel_rfl) (by kernel_rfl) (by kernel_rfl) (by kernel_rfl)) ?_
  intro W base args ds gs before hval0 hW hcnd hsz0 _
  have hval : ∀ (j : Nat) t v, Try.f6.params[j]? = some t → args[j]? = some v → Value.okWide Try.prog W .any base t v := hval0
  have hW' := hW
  obtain ⟨p, q, hA0, hV, rfl, hfz, hnd⟩ := hW
  have hA : DataW.TrodAll enc Try.prog W 0 (fun _ => true) true Try.f6.params.toList args.toList ds p := hA0
  rw [Try.params6] at hA hval
  obtain ⟨v0, vs0, d0, ds0, p0, q0, hargs, rfl, rfl, h0, r0⟩ := trodAll_cons hA
  obtain ⟨v1, vs1, d1, ds1, p1, q1, rfl, rfl, rfl, h1, r1⟩ := trodAll_cons r0
  obtain ⟨v2, vs2, d2, ds2, p2, q2, rfl, rfl, rfl, h2, r2⟩ := trodAll_cons r1
  obtain ⟨rfl, rfl, rfl⟩ := trodAll_nil r2
  obtain rfl : args = #[v0, v1, v2] := by cases args; simp_all
  obtain ⟨rfl, rfl⟩ := trodVars_none hV
  obtain ⟨a0, rfl, rfl, rfl, w0⟩ := open_int Try.underlying3 (hval 0 3 v0 rfl rfl) h0
  have k1 := h1
  have lt1 : ∀ x ∈ p1, x.block < W.heap.size := by obtain ⟨m, hm⟩ := k1; exact DataW.trod_lt m _ _ _ hm
  obtain ⟨cs1, rfl, l1_0, K1, w1⟩ := Opn.open_agg Try.underlying43 (Opn.opens_struct Try.underlying43 (by kernel_rfl) (Opn.fields_one (Opn.opens_slice Try.underlying27 (by kernel_rfl) (Opn.opens_int Try.underlying3 (by kernel_rfl))) rfl)) (hval 1 43 v1 rfl rfl) h1
  obtain ⟨A1_0, c1_0, rfl, hc1_0, hr1_0⟩ := K1
  have k2 := h2
  have lt2 : ∀ x ∈ p2, x.block < W.heap.size := by obtain ⟨m, hm⟩ := k2; exact DataW.trod_lt m _ _ _ hm
  obtain ⟨cs2, rfl, ⟨a2_0, a2_1, a2_2, a2_3, a2_4, a2_5, a2_6, a2_7, a2_8, a2_9⟩, K2, w2⟩ := Opn.open_agg Try.underlying35 (Opn.opens_struct Try.underlying35 (by kernel_rfl) (Opn.fields_cons (Opn.opens_int Try.underlying3 (by kernel_rfl)) rfl (Opn.fields_cons (Opn.opens_int Try.underlying3 (by kernel_rfl)) rfl (Opn.fields_cons (Opn.opens_int Try.underlying3 (by kernel_rfl)) rfl (Opn.fields_cons (Opn.opens_int Try.underlying3 (by kernel_rfl)) rfl (Opn.fields_cons (Opn.opens_int Try.underlying3 (by kernel_rfl)) rfl (Opn.fields_cons (Opn.opens_int Try.underlying3 (by kernel_rfl)) rfl (Opn.fields_cons (Opn.opens_int Try.underlying3 (by kernel_rfl)) rfl (Opn.fields_cons (Opn.opens_int Try.underlying3 (by kernel_rfl)) rfl (Opn.fields_cons (Opn.opens_int Try.underlying3 (by kernel_rfl)) rfl (Opn.fields_one (Opn.opens_bool Try.underlying4 (by kernel_rfl)) rfl))))))))))) (hval 2 35 v2 rfl rfl) h2
  obtain ⟨_, _, rfl, rfl, ⟨_, _, rfl, rfl, ⟨_, _, rfl, rfl, ⟨_, _, rfl, rfl, ⟨_, _, rfl, rfl, ⟨_, _, rfl, rfl, ⟨_, _, rfl, rfl, ⟨_, _, rfl, rfl, ⟨_, _, rfl, rfl, rfl⟩⟩⟩⟩⟩⟩⟩⟩⟩ := K2
  clear hA0 hval0 hsz0
  have hq : Calls Try.prog 6 #[.int .i64 a0, .agg #[.slice A1_0 l1_0.length c1_0], .agg #[.int .i64 a2_0, .int .i64 a2_1, .int .i64 a2_2, .int .i64 a2_3, .int .i64 a2_4, .int .i64 a2_5, .int .i64 a2_6, .int .i64 a2_7, .int .i64 a2_8, .bool a2_9]] W fun e w' => e = .returned (.bool true) ∧ Below W.heap.size W w' := by
    rcases Pure.FnExactLiStep a0 l1_0 a2_0 a2_1 a2_2 a2_3 a2_4 a2_5 a2_6 a2_7 a2_8 a2_9 w0 w1 w2 with ⟨s, p1, hs⟩ | ⟨k, s, M, MM, LL, r_0, r_1, r_2, r_3, r_4, r_5, r_6, r_7, r_8, r_9, q, m, m0, p1, hs, p2, p3, p4, p5, p6, p7, p8, hm0, p9, p10, hm⟩
    · exact laws_FnExactLiStep.small 0 a0 A1_0 c1_0 l1_0 a2_0 a2_1 a2_2 a2_3 a2_4 a2_5 a2_6 a2_7 a2_8 a2_9 s W hr1_0 hc1_0 p1 hs
    · exact laws_FnExactLiStep.walk k a0 A1_0 c1_0 l1_0 a2_0 a2_1 a2_2 a2_3 a2_4 a2_5 a2_6 a2_7 a2_8 a2_9 s M MM LL r_0 r_1 r_2 r_3 r_4 r_5 r_6 r_7 r_8 r_9 q m m0 W hr1_0 hc1_0 p1 hs p2 p3 p4 p5 p6 p7 p8 hm0 p9 p10 hm
  refine hq.mono fun e W' ⟨he, hb⟩ => ?_
  subst he
  have bel := hb
  exact ⟨_, rfl, _, _, _, [], _, [], hW', trodAll_mk1 (shut_bool Try.underlying4 _), (trodAll_cons_mk (shut_int Try.underlying3 w0) (trodAll_cons_mk (Below.trod laidOut (by kernel_rfl) (of_decide_eq_true (by kernel_rfl)) k1 bel lt1) (trodAll_cons_mk (Below.trod laidOut (by kernel_rfl) (of_decide_eq_true (by kernel_rfl)) k2 bel lt2) trodAll_mk0))), rfl, bel.frame _, fun h => by cases h⟩
theorem over : Rows.fnExactLiStepRow.holds Try.pinned (OpenSpec.ofChange Rows.fnExactLiStepSpec) :=
  OpenClaim.holds_of_wide 6 Try.f6 rfl rfl rfl rfl rfl rfl rfl ⟨rfl, rfl, rfl, rfl, rfl⟩ rfl rfl rfl rfl rfl (by kernel_rfl) Try.func6 (by kernel_rfl)
    (of_decide_eq_true (by kernel_rfl)) (by unfold Func.isWrapper; first | (rw [if_pos (by decide +kernel)]; kernel_rfl) | (rw [if_neg (by decide +kernel)]; exact ⟨rfl, rfl⟩))
    (fun os started H enc _ => lifted os started H enc)
theorem proved : Rows.FnExactLiStepSaid := over
#print axioms proved
end Go.Proofs.Ytjikobdblohphaa.fnExactLiStep
namespace Go.Proofs.Ytjikobdblohphaa
/-- The row, under a short name, for the claim. -/
theorem fnExactLiStep_holds : Rows.FnExactLiStepSaid := fnExactLiStep.proved
end Go.Proofs.Ytjikobdblohphaa
