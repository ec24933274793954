/- The law FnExactRiNew answers true whatever its arguments hold: the program's function and the reference's come to the same, and no list of an answer is shared. No condition. -/
import Derived.Test.YtfahmmlkcmadeaaPFnExactRiNewx2
namespace Go.Proofs.Ytfahmmlkcmadeaa.Pure
open Go.RowKit Go.Proofs.Ytfahmmlkcmadeaa.PFnExactRiNew Go.Proofs.YtfahmmlkcmadeaaW.PrintWords Go.Proofs.YtfahmmlkcmadeaaW.PrintLast
set_option linter.unusedSimpArgs false
set_option linter.unusedVariables false

/-! Small facts. -/
theorem w64 {x : Int} (h0 : -9223372036854775808 ≤ x) (h1 : x ≤ 9223372036854775807) : wrap64 x = x := by unfold wrap64; omega
theorem rd_nat (l : List Int) (j : Nat) : rd l (j : Int) = l.getD j 0 := by simp [rd]
/-- The numbers from m on, n of them. -/
def marked (m : Int) (n : Nat) : List Int := (List.range n).map fun (i : Nat) => m + (i : Int)
theorem marked_len (m : Int) (n : Nat) : (marked m n).length = n := by simp [marked]
theorem marked_get (m : Int) (n j : Nat) (h : j < n) : (marked m n).getD j 0 = m + j := by simp [marked, List.getD, h]
theorem neg1 (n : Nat) : ((1 : Int) + (n : Int) < 0) = False := by simp only [eq_iff_iff, iff_false]; omega
theorem neg0 : ((-1 : Int) < 0) = True := by simp


theorem out_spec (n : Int) (h : ¬ (2 ≤ n ∧ n ≤ 16)) (k : Nat) : spec_RiNew.f (k + 3) n = some (([] : List Int), false) := by
  unfold spec_RiNew.f spec_l04Size.f
  repeat' split
  all_goals first | rfl | omega | (simp only [Option.bind_some]; rw [if_neg (by simp; omega)]) | (simp_all; done) | (simp_all; omega) | (simp only [spec_RiNew.j0]; rw [if_pos (by simp; omega)])
theorem out_impl (n : Int) (h : ¬ (2 ≤ n ∧ n ≤ 16)) (k : Nat) : impl_RiNew.f (k + 3) n = some (([] : List Int), false) := by
  unfold impl_RiNew.f impl_within.f
  repeat' split
  all_goals first | rfl | omega | (simp only [Option.bind_some]; rw [if_neg (by simp; omega)])

theorem FnExactRiNew : laws_FnExactRiNew.Pure := by
  intro n _
  refine ⟨100, ?_⟩
  by_cases h : 2 ≤ n ∧ n ≤ 16
  · have all : ∀ m : Fin 15, laws_FnExactRiNew.f 100 (((m : Nat) : Int) + 2) = some true := by decide +kernel
    have := all ⟨(n - 2).toNat, by omega⟩
    rwa [show (((⟨(n - 2).toNat, by omega⟩ : Fin 15) : Nat) : Int) + 2 = n by show (((n - 2).toNat : Nat) : Int) + 2 = n; omega] at this
  · have e1 : spec_RiNew.f 100 n = some (([] : List Int), false) := out_spec n h 97
    have e2 : ∀ k, impl_RiNew.f (k + 3) n = some (([] : List Int), false) := fun k => out_impl n h k
    unfold laws_FnExactRiNew.f
    have e3 : impl_RiNew.f 100 n = some (([] : List Int), false) := e2 97
    have e4 : impl_RiNew.f 99 n = some (([] : List Int), false) := e2 96
    simp only [e1, e3, e4, laws_FnExactRiNew.j0, Option.bind_some]
    decide +kernel

end Go.Proofs.Ytfahmmlkcmadeaa.Pure
