/- The row of the law FnExactFacts: whatever the arguments hold, it returns true, and they read as they did. Out of the contract of the law's function and its pure statement. No condition. -/
import Derived.Test.YtndkfjecipjiaaaRows
import Derived.Test.YtndkfjecipjiaaaPFnExactFactsx9
import Derived.Test.YtndkfjecipjiaaaPureFnExactFacts
import Derived.Test.YtndkfjecipjiaaaOpnFacts
import Derived.WalkKit
import Derived.ProofKit
import Derived.OpenShut
import Derived.ShutString
import Derived.ChangeOld
import Derived.Below
import Derived.SizedLaws
import Derived.Carry
namespace Go.Proofs.Ytndkfjecipjiaaa.fnExactFacts
open Go.ChangeShapes Go.WideShapes Go.ChangeAt Go.RowKit Go.Proofs.Ytndkfjecipjiaaa.PFnExactFacts Go.Proofs.YtndkfjecipjiaaaW.PrintWords
set_option linter.unusedVariables false
theorem own : ownKnob Try.prog.godebug = none := by kernel_rfl
theorem laidOut : laidOutB Try.prog = true := by kernel_rfl
theorem open_T106 : Opn.Opens Try.prog 106 k106 wfT106 := by
  have h := Opn.opens_struct Try.underlying106 (by kernel_rfl) (Opn.fields_cons (Opn.opens_int Try.underlying3 (by kernel_rfl)) rfl (Opn.fields_cons (Opn.opens_int Try.underlying3 (by kernel_rfl)) rfl (Opn.fields_cons (Opn.opens_int Try.underlying3 (by kernel_rfl)) rfl (Opn.fields_cons (Opn.opens_int Try.underlying3 (by kernel_rfl)) rfl (Opn.fields_cons (Opn.opens_int Try.underlying3 (by kernel_rfl)) rfl (Opn.fields_cons (Opn.opens_int Try.underlying3 (by kernel_rfl)) rfl (Opn.fields_cons (Opn.opens_int Try.underlying3 (by kernel_rfl)) rfl (Opn.fields_cons (Opn.opens_int Try.underlying3 (by kernel_rfl)) rfl (Opn.fields_cons (Opn.opens_int Try.underlying3 (by kernel_rfl)) rfl (Opn.fields_one (Opn.opens_bool Try.underlying4 (by kernel_rfl)) rfl))))))))))
  exact Opn.opens_iso (f := fun x : S106 => (x.f0, x.f1, x.f2, x.f3, x.f4, x.f5, x.f6, x.f7, x.f8, x.f9)) (g := fun y => (⟨y.1, y.2.1, y.2.2.1, y.2.2.2.1, y.2.2.2.2.1, y.2.2.2.2.2.1, y.2.2.2.2.2.2.1, y.2.2.2.2.2.2.2.1, y.2.2.2.2.2.2.2.2.1, y.2.2.2.2.2.2.2.2.2⟩ : S106)) h (fun _ => rfl)
theorem open_T50 : Opn.Opens Try.prog 50 k50 wfT50 := by
  have h := Opn.opens_struct Try.underlying50 (by kernel_rfl) (Opn.fields_cons (Opn.opens_slice Try.underlying48 (by kernel_rfl) open_T106) rfl (Opn.fields_cons (Opn.opens_int Try.underlying3 (by kernel_rfl)) rfl (Opn.fields_cons (Opn.opens_slice Try.underlying24 (by kernel_rfl) (Opn.opens_int Try.underlying3 (by kernel_rfl))) rfl (Opn.fields_one (Opn.opens_slice Try.underlying24 (by kernel_rfl) (Opn.opens_int Try.underlying3 (by kernel_rfl))) rfl))))
  exact Opn.opens_iso (f := fun x : S50 => (x.f0, x.f1, x.f2, x.f3)) (g := fun y => (⟨y.1, y.2.1, y.2.2.1, y.2.2.2⟩ : S50)) h (fun _ => rfl)
set_option maxRecDepth 100000 in
theorem lifted (os : Os) (started : os.Started) (H : Type) (enc : TypeId × Value → H) :
    ReturnsInHanded {} Try.checked os 8 .any (Rows.fnExactFactsSpec.pre6 enc Try.prog Try.f8 Rows.fnExactFactsRow.domain false) (Rows.fnExactFactsSpec.post enc Try.prog Try.f8 false true false false) := by
  refine returnsInHanded_of_change_sized (C := Try.checked) own started (by kernel_rfl) Try.func8
    (ChangeSpec.witness6 (enc := enc) (C := Try.checked) false ⟨#[], #[.agg #[.int .i64 0, .int .i64 0, .slice none 0 0, .slice none 0 0, .int .i64 0]], []⟩ 8 (by kernel_rfl) (by kernel_rfl) (by kernel_rfl) (by kernel_rfl)) ?_
  intro W base args ds gs before hval0 hW hcnd hsz0 _
  have hval : ∀ (j : Nat) t v, Try.f8.params[j]? = some t → args[j]? = some v → Value.okWide Try.prog W .any base t v := hval0
  have hW' := hW
  obtain ⟨p, q, hA0, hV, rfl, hfz, hnd⟩ := hW
  have hA : DataW.TrodAll enc Try.prog W 0 (fun _ => true) true Try.f8.params.toList args.toList ds p := hA0
  rw [Try.params8] at hA hval
  obtain ⟨v0, vs0, d0, ds0, p0, q0, hargs, rfl, rfl, h0, r0⟩ := trodAll_cons hA
  obtain ⟨rfl, rfl, rfl⟩ := trodAll_nil r0
  obtain rfl : args = #[v0] := by cases args; simp_all
  obtain ⟨rfl, rfl⟩ := trodVars_none hV
  have k0 := h0
  have lt0 : ∀ x ∈ p0, x.block < W.heap.size := by obtain ⟨m, hm⟩ := k0; exact DataW.trod_lt m _ _ _ hm
  obtain ⟨cs0, rfl, ⟨a0_0, a0_1, l0_2, l0_3, a0_4⟩, K0, w0⟩ := Opn.open_agg Try.underlying40 (Opn.opens_struct Try.underlying40 (by kernel_rfl) (Opn.fields_cons (Opn.opens_int Try.underlying3 (by kernel_rfl)) rfl (Opn.fields_cons (Opn.opens_int Try.underlying3 (by kernel_rfl)) rfl (Opn.fields_cons (Opn.opens_struct Try.underlying38 (by kernel_rfl) (Opn.fields_one (Opn.opens_slice Try.underlying24 (by kernel_rfl) (Opn.opens_int Try.underlying3 (by kernel_rfl))) rfl)) rfl (Opn.fields_cons (Opn.opens_slice Try.underlying22 (by kernel_rfl) open_T50) rfl (Opn.fields_one (Opn.opens_int Try.underlying3 (by kernel_rfl)) rfl)))))) (hval 0 40 v0 rfl rfl) h0
  obtain ⟨_, _, rfl, rfl, ⟨_, _, rfl, rfl, ⟨_, _, rfl, ⟨A0_2, c0_2, rfl, hc0_2, hr0_2⟩, ⟨_, _, rfl, ⟨A0_3, c0_3, rfl, hc0_3, hr0_3⟩, rfl⟩⟩⟩⟩ := K0
  clear hA0 hval0 hsz0
  have hq : Calls Try.prog 8 #[.agg #[.int .i64 a0_0, .int .i64 a0_1, .slice A0_2 l0_2.length c0_2, .slice A0_3 l0_3.length c0_3, .int .i64 a0_4]] W fun e w' => e = .returned (.bool true) ∧ Below W.heap.size W w' := by
    rcases Pure.FnExactFacts a0_0 a0_1 l0_2 l0_3 a0_4 w0 with ⟨k, s, p1, hs⟩ | ⟨k, s, b0, b1, b4, l2, l3, R, R2, m, p1, hs, p2, p3, p4, p5, p6, p7, p8, p9, hm⟩
    · exact laws_FnExactFacts.small k a0_0 a0_1 A0_2 c0_2 l0_2 A0_3 c0_3 l0_3 a0_4 s W hr0_2 hc0_2 hr0_3 hc0_3 p1 hs
    · exact laws_FnExactFacts.walk k a0_0 a0_1 A0_2 c0_2 l0_2 A0_3 c0_3 l0_3 a0_4 s b0 b1 b4 l2 l3 R R2 m W hr0_2 hc0_2 hr0_3 hc0_3 p1 hs p2 p3 p4 p5 p6 p7 p8 p9 hm
  refine (hq).mono fun e W' ⟨he, hb⟩ => ?_
  subst he
  have bel := hb
  exact ⟨_, rfl, _, _, _, [], _, [], hW', trodAll_mk1 (shut_bool Try.underlying4 _), (trodAll_cons_mk (Below.trod laidOut (by kernel_rfl) (of_decide_eq_true (by kernel_rfl)) k0 bel lt0) trodAll_mk0), rfl, bel.frame _, fun h => by cases h⟩
theorem over : Rows.fnExactFactsRow.holds Try.pinned (OpenSpec.ofChange Rows.fnExactFactsSpec) :=
  OpenClaim.holds_of_wide 8 Try.f8 rfl rfl rfl rfl rfl rfl rfl ⟨rfl, rfl, rfl, rfl, rfl⟩ rfl rfl rfl rfl rfl (by kernel_rfl) Try.func8 (by kernel_rfl)
    (of_decide_eq_true (by kernel_rfl)) (by unfold Func.isWrapper; first | (rw [if_pos (by decide +kernel)]; kernel_rfl) | (rw [if_neg (by decide +kernel)]; exact ⟨rfl, rfl⟩))
    (fun os started H enc _ => lifted os started H enc)
theorem proved : Rows.FnExactFactsSaid := over
#print axioms proved
end Go.Proofs.Ytndkfjecipjiaaa.fnExactFacts
namespace Go.Proofs.Ytndkfjecipjiaaa
/-- The row, under a short name, for the claim. -/
theorem fnExactFacts_holds : Rows.FnExactFactsSaid := fnExactFacts.proved
end Go.Proofs.Ytndkfjecipjiaaa
