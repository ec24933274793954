/- The law FnExactLiNew answers true whatever its arguments hold: the program's function and the reference's come to the same, and no list of an answer is shared. No condition. -/
import Derived.Test.YtjikobdblohphaaPFnExactLiNewx2
namespace Go.Proofs.Ytjikobdblohphaa.Pure
open Go.RowKit Go.Proofs.Ytjikobdblohphaa.PFnExactLiNew Go.Proofs.YtjikobdblohphaaW.PrintWords Go.Proofs.YtjikobdblohphaaW.PrintLast
set_option linter.unusedSimpArgs false
set_option linter.unusedVariables false

/-! Small facts. -/
theorem w64 {x : Int} (h0 : -9223372036854775808 ≤ x) (h1 : x ≤ 9223372036854775807) : wrap64 x = x := by unfold wrap64; omega
theorem rd_nat (l : List Int) (j : Nat) : rd l (j : Int) = l.getD j 0 := by simp [rd]
/-- The numbers from m on, n of them. -/
def marked (m : Int) (n : Nat) : List Int := (List.range n).map fun (i : Nat) => m + (i : Int)
theorem marked_len (m : Int) (n : Nat) : (marked m n).length = n := by simp [marked]
theorem marked_get (m : Int) (n j : Nat) (h : j < n) : (marked m n).getD j 0 = m + j := by simp [marked, List.getD, h]
theorem neg1 (n : Nat) : ((1 : Int) + (n : Int) < 0) = False := by simp only [eq_iff_iff, iff_false]; omega
theorem neg0 : ((-1 : Int) < 0) = True := by simp


theorem out_spec (n : Int) (h : ¬ (1 ≤ n ∧ n ≤ 16)) (k : Nat) : spec_LiNew.f n = some (([] : List Int), false) := by
  unfold spec_LiNew.f spec_l03Size.f
  repeat' split
  all_goals first | rfl | omega | (simp only [Option.bind_some]; rw [if_neg (by simp; omega)]) | (simp_all; done) | (simp_all; omega) | (simp only [spec_LiNew.j0]; rw [if_pos (by simp; omega)])
theorem out_impl (n : Int) (h : ¬ (1 ≤ n ∧ n ≤ 16)) (k : Nat) : impl_LiNew.f n = some (([] : List Int), false) := by
  unfold impl_LiNew.f impl_within.f
  repeat' split
  all_goals first | rfl | omega | (simp only [Option.bind_some]; rw [if_neg (by simp; omega)])

theorem FnExactLiNew : laws_FnExactLiNew.Pure := by
  intro n _
  refine ⟨100, ?_⟩
  by_cases h : 1 ≤ n ∧ n ≤ 16
  · have all : ∀ m : Fin 16, laws_FnExactLiNew.f 100 (((m : Nat) : Int) + 1) = some true := by decide +kernel
    have := all ⟨(n - 1).toNat, by omega⟩
    rwa [show (((⟨(n - 1).toNat, by omega⟩ : Fin 16) : Nat) : Int) + 1 = n by show (((n - 1).toNat : Nat) : Int) + 1 = n; omega] at this
  · have e1 : spec_LiNew.f n = some (([] : List Int), false) := out_spec n h 0
    have e2 : ∀ k, impl_LiNew.f n = some (([] : List Int), false) := fun k => out_impl n h k
    unfold laws_FnExactLiNew.f
    have e3 := e2 0
    have e4 := e2 0
    simp only [e1, e3, e4, laws_FnExactLiNew.j0, Option.bind_some]
    decide +kernel

end Go.Proofs.Ytjikobdblohphaa.Pure
