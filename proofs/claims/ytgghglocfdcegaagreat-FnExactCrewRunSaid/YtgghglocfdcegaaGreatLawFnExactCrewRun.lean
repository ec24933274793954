/- The row of the law FnExactCrewRun: whatever the arguments hold, it returns true, and they read as they did. Out of the contract of the law's function and its pure statement. No condition. -/
import Derived.Test.YtgghglocfdcegaaGreatRows
import Derived.Test.YtgghglocfdcegaaGreatOpn
import Derived.Test.YtgghglocfdcegaaGreatKY
import Derived.WalkKit
import Derived.ProofKit
import Derived.OpenShut
import Derived.ShutString
import Derived.ChangeOld
import Derived.Below
import Derived.SizedLaws
import Derived.Carry
namespace Go.Proofs.YtgghglocfdcegaaGreat.fnExactCrewRun
open Go.ChangeShapes Go.WideShapes Go.ChangeAt Go.RowKit Go.Proofs.YtgghglocfdcegaaGreat.PFnExactCrewRun Go.Proofs.YtgghglocfdcegaaGreat.Xec Go.Proofs.YtgghglocfdcegaaGreatW.PrintWords
set_option linter.unusedVariables false
theorem own : ownKnob Tryz.prog.godebug = none := by kernel_rfl
theorem laidOut : laidOutB Tryz.prog = true := by kernel_rfl
theorem open_T114 : Opn.Opens Tryz.prog 114 k114 wfT114 := by
  have h := Opn.opens_struct Tryz.underlying114 (by kernel_rfl) (Opn.fields_cons (Opn.opens_int Tryz.underlying3 (by kernel_rfl)) rfl (Opn.fields_cons (Opn.opens_int Tryz.underlying3 (by kernel_rfl)) rfl (Opn.fields_cons (Opn.opens_int Tryz.underlying3 (by kernel_rfl)) rfl (Opn.fields_cons (Opn.opens_int Tryz.underlying3 (by kernel_rfl)) rfl (Opn.fields_cons (Opn.opens_int Tryz.underlying3 (by kernel_rfl)) rfl (Opn.fields_cons (Opn.opens_int Tryz.underlying3 (by kernel_rfl)) rfl (Opn.fields_cons (Opn.opens_int Tryz.underlying3 (by kernel_rfl)) rfl (Opn.fields_cons (Opn.opens_int Tryz.underlying3 (by kernel_rfl)) rfl (Opn.fields_cons (Opn.opens_int Tryz.underlying3 (by kernel_rfl)) rfl (Opn.fields_one (Opn.opens_bool Tryz.underlying4 (by kernel_rfl)) rfl))))))))))
  exact Opn.opens_iso (f := fun x : S114 => (x.f0, x.f1, x.f2, x.f3, x.f4, x.f5, x.f6, x.f7, x.f8, x.f9)) (g := fun y => (⟨y.1, y.2.1, y.2.2.1, y.2.2.2.1, y.2.2.2.2.1, y.2.2.2.2.2.1, y.2.2.2.2.2.2.1, y.2.2.2.2.2.2.2.1, y.2.2.2.2.2.2.2.2.1, y.2.2.2.2.2.2.2.2.2⟩ : S114)) h (fun _ => rfl)
theorem open_T66 : Opn.Opens Tryz.prog 66 k66 wfT66 := by
  have h := Opn.opens_struct Tryz.underlying66 (by kernel_rfl) (Opn.fields_cons (Opn.opens_slice Tryz.underlying64 (by kernel_rfl) open_T114) rfl (Opn.fields_cons (Opn.opens_int Tryz.underlying3 (by kernel_rfl)) rfl (Opn.fields_cons (Opn.opens_slice Tryz.underlying22 (by kernel_rfl) (Opn.opens_int Tryz.underlying3 (by kernel_rfl))) rfl (Opn.fields_one (Opn.opens_slice Tryz.underlying22 (by kernel_rfl) (Opn.opens_int Tryz.underlying3 (by kernel_rfl))) rfl))))
  exact Opn.opens_iso (f := fun x : S66 => (x.f0, x.f1, x.f2, x.f3)) (g := fun y => (⟨y.1, y.2.1, y.2.2.1, y.2.2.2⟩ : S66)) h (fun _ => rfl)
set_option maxRecDepth 100000 in
theorem lifted (os : Os) (started : os.Started) (H : Type) (enc : TypeId × Value → H) :
    ReturnsInHanded {} Tryz.checked os 4 .any (Rows.fnExactCrewRunSpec.pre6 enc Tryz.prog Tryz.f4 Rows.fnExactCrewRunRow.domain false) (Rows.fnExactCrewRunSpec.post enc Tryz.prog Tryz.f4 false true false false) := by
  refine returnsInHanded_of_change_sized (C := Tryz.checked) own started (by kernel_rfl) Tryz.func4
    (ChangeSpec.witness6 (enc := enc) (C := Tryz.checked) false ⟨#[], #[.agg #[.int .i64 0, .int .i64 0, .slice none 0 0, .slice none 0 0, .int .i64 0], .slice none 0 0], []⟩ 8 (by kernel_rfl) (by kernel_rfl) (by kernel_rfl) (by kernel_rfl)) ?_
  intro W base args ds gs before hval0 hW hcnd hsz0 _
  have hval : ∀ (j : Nat) t v, Tryz.f4.params[j]? = some t → args[j]? = some v → Value.okWide Tryz.prog W .any base t v := hval0
  have hW' := hW
  obtain ⟨p, q, hA0, hV, rfl, hfz, hnd⟩ := hW
  have hA : DataW.TrodAll enc Tryz.prog W 0 (fun _ => true) true Tryz.f4.params.toList args.toList ds p := hA0
  rw [Tryz.params4] at hA hval
  obtain ⟨v0, vs0, d0, ds0, p0, q0, hargs, rfl, rfl, h0, r0⟩ := trodAll_cons hA
  obtain ⟨v1, vs1, d1, ds1, p1, q1, rfl, rfl, rfl, h1, r1⟩ := trodAll_cons r0
  obtain ⟨rfl, rfl, rfl⟩ := trodAll_nil r1
  obtain rfl : args = #[v0, v1] := by cases args; simp_all
  obtain ⟨rfl, rfl⟩ := trodVars_none hV
  have k0 := h0
  have lt0 : ∀ x ∈ p0, x.block < W.heap.size := by obtain ⟨m, hm⟩ := k0; exact DataW.trod_lt m _ _ _ hm
  obtain ⟨cs0, rfl, ⟨a0_0, a0_1, l0_2, l0_3, a0_4⟩, K0, w0⟩ := Opn.open_agg Tryz.underlying27 (Opn.opens_struct Tryz.underlying27 (by kernel_rfl) (Opn.fields_cons (Opn.opens_int Tryz.underlying3 (by kernel_rfl)) rfl (Opn.fields_cons (Opn.opens_int Tryz.underlying3 (by kernel_rfl)) rfl (Opn.fields_cons (Opn.opens_struct Tryz.underlying24 (by kernel_rfl) (Opn.fields_one (Opn.opens_slice Tryz.underlying22 (by kernel_rfl) (Opn.opens_int Tryz.underlying3 (by kernel_rfl))) rfl)) rfl (Opn.fields_cons (Opn.opens_slice Tryz.underlying25 (by kernel_rfl) open_T66) rfl (Opn.fields_one (Opn.opens_int Tryz.underlying3 (by kernel_rfl)) rfl)))))) (hval 0 27 v0 rfl rfl) h0
  obtain ⟨_, _, rfl, rfl, ⟨_, _, rfl, rfl, ⟨_, _, rfl, ⟨A0_2, c0_2, rfl, hc0_2, hr0_2⟩, ⟨_, _, rfl, ⟨A0_3, c0_3, rfl, hc0_3, hr0_3⟩, rfl⟩⟩⟩⟩ := K0
  have k1 := h1
  have lt1 : ∀ x ∈ p1, x.block < W.heap.size := by obtain ⟨m, hm⟩ := k1; exact DataW.trod_lt m _ _ _ hm
  obtain ⟨A1, l1, c1, rfl, hr1, hc1, w1⟩ := Opn.open_row_ Tryz.underlying22 (Opn.opens_slice Tryz.underlying22 (by kernel_rfl) (Opn.opens_int Tryz.underlying3 (by kernel_rfl))) (hval 1 22 v1 rfl rfl) h1
  clear hA0 hval0 hsz0
  have hq : Calls Tryz.prog 4 #[.agg #[.int .i64 a0_0, .int .i64 a0_1, .slice A0_2 l0_2.length c0_2, .slice A0_3 l0_3.length c0_3, .int .i64 a0_4], .slice A1 l1.length c1] W fun e w' => e = .returned (.bool true) ∧ Below W.heap.size W w' := crewRun_law a0_0 a0_1 A0_2 c0_2 l0_2 A0_3 c0_3 l0_3 a0_4 A1 c1 l1 W w0 w1.2 hr0_2 hc0_2 hr0_3 hc0_3 hr1 hc1
  refine (hq).mono fun e W' ⟨he, hb⟩ => ?_
  subst he
  have bel := hb
  exact ⟨_, rfl, _, _, _, [], _, [], hW', trodAll_mk1 (shut_bool Tryz.underlying4 _), (trodAll_cons_mk (Below.trod laidOut (by kernel_rfl) (of_decide_eq_true (by kernel_rfl)) k0 bel lt0) (trodAll_cons_mk (Below.trod laidOut (by kernel_rfl) (of_decide_eq_true (by kernel_rfl)) k1 bel lt1) trodAll_mk0)), rfl, bel.frame _, fun h => by cases h⟩
theorem over : Rows.fnExactCrewRunRow.holds Tryz.pinned (OpenSpec.ofChange Rows.fnExactCrewRunSpec) :=
  OpenClaim.holds_of_wide 4 Tryz.f4 rfl rfl rfl rfl rfl rfl rfl ⟨rfl, rfl, rfl, rfl, rfl⟩ rfl rfl rfl rfl rfl (by kernel_rfl) Tryz.func4 (by kernel_rfl)
    (of_decide_eq_true (by kernel_rfl)) (by unfold Func.isWrapper; first | (rw [if_pos (by decide +kernel)]; kernel_rfl) | (rw [if_neg (by decide +kernel)]; exact ⟨rfl, rfl⟩))
    (fun os started H enc _ => lifted os started H enc)
theorem proved : Rows.FnExactCrewRunSaid := over
#print axioms proved
end Go.Proofs.YtgghglocfdcegaaGreat.fnExactCrewRun
namespace Go.Proofs.YtgghglocfdcegaaGreat
/-- The row, under a short name, for the claim. -/
theorem fnExactCrewRun_holds : Rows.FnExactCrewRunSaid := fnExactCrewRun.proved
end Go.Proofs.YtgghglocfdcegaaGreat
