/- The law FnExactLiAct answers true whatever its arguments hold: the program's function and the reference's come to the same, and no list of an answer is shared. No condition. -/
import Derived.Test.YtjikobdblohphaaPFnExactLiActx5
namespace Go.Proofs.Ytjikobdblohphaa.Pure
open Go.RowKit Go.Proofs.Ytjikobdblohphaa.PFnExactLiAct Go.Proofs.YtjikobdblohphaaW.PrintWords Go.Proofs.YtjikobdblohphaaW.PrintLast
set_option linter.unusedSimpArgs false
set_option linter.unusedVariables false

/-! Small facts. -/
theorem w64 {x : Int} (h0 : -9223372036854775808 ≤ x) (h1 : x ≤ 9223372036854775807) : wrap64 x = x := by unfold wrap64; omega
theorem rd_nat (l : List Int) (j : Nat) : rd l (j : Int) = l.getD j 0 := by simp [rd]
/-- The numbers from m on, n of them. -/
def marked (m : Int) (n : Nat) : List Int := (List.range n).map fun (i : Nat) => m + (i : Int)
theorem marked_len (m : Int) (n : Nat) : (marked m n).length = n := by simp [marked]
theorem marked_get (m : Int) (n j : Nat) (h : j < n) : (marked m n).getD j 0 = m + j := by simp [marked, List.getD, h]
theorem neg1 (n : Nat) : ((1 : Int) + (n : Int) < 0) = False := by simp only [eq_iff_iff, iff_false]; omega
theorem neg0 : ((-1 : Int) < 0) = True := by simp
theorem i64r {n : Int} (h : (Lit.int .i64 n).wf = true) : -9223372036854775808 ≤ n ∧ n ≤ 9223372036854775807 := by
  have e1 : IntKind.i64.min = -9223372036854775808 := by decide
  have e2 : IntKind.i64.max = 9223372036854775807 := by decide
  simp only [Lit.wf, Bool.and_eq_true, decide_eq_true_eq, e1, e2] at h
  exact h

theorem within (a lo hi : Int) : impl_within.f a lo hi = some (decide (lo ≤ a ∧ a ≤ hi)) := by
  unfold impl_within.f
  by_cases h : a ≥ lo
  · rw [if_pos h]
    have h' : lo ≤ a := h
    simp [h']
  · rw [if_neg h]
    have h' : ¬ lo ≤ a := h
    simp [h']

theorem l01In (a lo hi : Int) : spec_l01In.f a lo hi = some (decide (lo ≤ a ∧ a ≤ hi)) := by
  unfold spec_l01In.f
  by_cases h : a ≥ lo
  · rw [if_pos h]
    have h' : lo ≤ a := h
    simp [h']
  · rw [if_neg h]
    have h' : ¬ lo ≤ a := h
    simp [h']

/-! LiAct: both come to the same. -/
theorem half (c : Int) (h0 : 0 ≤ c) (h1 : c ≤ 9223372036854775807) : wrap64 (Int.tdiv c 2) = c / 2 := by
  rw [Int.tdiv_eq_ediv_of_nonneg h0, w64 (by omega) (by omega)]
/-- The node that a word tells, as the code computes it. -/
def nd (c : Int) : Int := wrap64 (wrap64 (Int.tdiv c 2) - 1)
theorem nd_pos (c : Int) (h0 : 0 ≤ c) (h1 : c ≤ 9223372036854775807) : nd c = c / 2 - 1 := by
  unfold nd; rw [half c h0 h1, w64 (by omega) (by omega)]
def lB (n c : Int) : Bool := decide (0 ≤ c ∧ c / 2 ≤ n)
def gB (c : Int) : Bool := decide (0 ≤ nd c)
def xB (n x : Int) : Bool := decide (0 ≤ x ∧ x ≤ n - 1)
theorem l05Link (n c : Int) (h1 : c ≤ 9223372036854775807) : spec_l05Link.f n c = some (lB n c) := by
  unfold spec_l05Link.f lB
  by_cases h : c ≥ 0
  · have h' : 0 ≤ c := h
    rw [if_pos h, half c h' h1]; simp [h']
  · have h' : ¬ 0 ≤ c := h
    rw [if_neg h]; simp [h']
theorem l05There (n c : Int) (h1 : c ≤ 9223372036854775807) : spec_l05There.f n c = some (lB n c && gB c) := by
  unfold spec_l05There.f
  rw [l05Link n c h1]
  simp only [Option.bind_some]
  by_cases h : lB n c = true
  · rw [if_pos h, h]
    simp only [lB, decide_eq_true_eq] at h
    rw [half c h.1 h1]
    refine congrArg some ?_
    unfold gB
    rw [nd_pos c h.1 h1, Bool.true_and, Bool.eq_iff_iff]
    simp only [decide_eq_true_eq]; omega
  · rw [if_neg h]; simp at h; simp [h]
theorem isLink (n c : Int) (hn : 1 ≤ n ∧ n ≤ 16) (h1 : c ≤ 9223372036854775807) : impl_isLink.f c n = some (lB n c) := by
  unfold impl_isLink.f lB impl_nodeOf.f
  by_cases h : c ≥ 0
  · have h' : 0 ≤ c := h
    rw [if_pos h, half c h' h1, w64 (by omega) (by omega)]
    simp only [Option.bind_some, h', true_and]
    refine congrArg some ?_
    rw [Bool.eq_iff_iff]; simp only [decide_eq_true_eq]; omega
  · have h' : ¬ 0 ≤ c := h
    rw [if_neg h]; simp [h']
/-- Whether P is the head link or the link of a node. -/
def pOk (n p : Int) : Bool := decide (0 ≤ p ∧ p ≤ 2 * n ∧ p % 2 = 0)
/-- What a step of a kind needs. -/
def mayB (n kd x pc c w : Int) : Bool :=
  if pc = 0 then true else if pc = 1 ∨ pc = 2 then lB n c && gB c else if kd = 3 then false else if pc = 3 then lB n c && gB c && lB n w
  else if 4 ≤ pc ∧ pc ≤ 6 then decide (kd = 1) && xB n x && lB n c else if pc = 7 ∧ kd = 2 then lB n c && gB c && lB n w else false
theorem tmod2 (p : Int) : (Int.tmod p 2 != 0) = decide (¬ p % 2 = 0) := by
  rw [Int.tmod_eq_emod, Bool.eq_iff_iff]
  simp only [bne_iff_ne, ne_eq, decide_eq_true_eq]
  split <;> simp <;> omega
def pcs (pc : Int) : Prop := pc = 0 ∨ pc = 1 ∨ pc = 2 ∨ pc = 3 ∨ pc = 4 ∨ pc = 5 ∨ pc = 6 ∨ pc = 7 ∨ pc < 0 ∨ 7 < pc
theorem pcs_all (pc : Int) : pcs pc := by unfold pcs; omega
theorem May (k : Nat) (n kd a x pc p c w r v : Int) (done : Bool) (hn : 1 ≤ n ∧ n ≤ 16) (hk : 1 ≤ kd ∧ kd ≤ 3) (hc : c ≤ 9223372036854775807) (hw : w ≤ 9223372036854775807) (hd : done = false) :
    spec_l05May.f (k + 5) n kd a x pc p c w r v done = some (pOk n p && mayB n kd x pc c w) := by
  subst hd
  have hz : spec_l03Size.f n = some true := by unfold spec_l03Size.f; rw [if_pos (by omega), decide_eq_true hn.2]
  have hwn : wrap64 (2 * n) = 2 * n := w64 (by omega) (by omega)
  have hwn1 : wrap64 (n - 1) = n - 1 := w64 (by omega) (by omega)
  have hx : spec_l01In.f x 0 (n - 1) = some (xB n x) := l01In x 0 (n - 1)
  have step : ∀ q, spec_l05May.j0 (k + 5) n q kd a x pc p c w r v false = some (!q && mayB n kd x pc c w) := by
    intro q
    cases q with
    | true => simp [spec_l05May.j0]
    | false =>
      simp only [spec_l05May.j0, spec_l05May.j1, spec_l05May.j2, l05There n c hc, l05Link n c hc, l05Link n w hw, hx, hwn1, Option.bind_some, Bool.not_false, Bool.true_and]
      unfold mayB
      generalize lB n c = L
      generalize gB c = G
      generalize lB n w = M
      generalize xB n x = X
      rcases (show kd = 1 ∨ kd = 2 ∨ kd = 3 by omega) with rfl | rfl | rfl <;> rcases pcs_all pc with rfl | rfl | rfl | rfl | rfl | rfl | rfl | rfl | h | h <;>
        first
        | (cases L <;> cases G <;> cases M <;> cases X <;> rfl)
        | (have e0 : ¬ pc = 0 := by omega
           have e1 : ¬ pc = 1 := by omega
           have e2 : ¬ pc = 2 := by omega
           have e3 : ¬ pc = 3 := by omega
           have e4 : ¬ (4 ≤ pc ∧ pc ≤ 6) := by omega
           have e7 : ¬ pc = 7 := by omega
           have e5 : 4 ≤ pc → ¬ pc ≤ 6 := fun h h2 => e4 ⟨h, h2⟩
           by_cases e6 : 4 ≤ pc
           · simp [e0, e1, e2, e3, e7, e6, e5 e6]
           · simp [e0, e1, e2, e3, e7, e6])
  unfold spec_l05May.f
  rw [if_neg (by simp), hz]
  simp only [Option.bind_some, if_true, hwn, tmod2, step]
  rw [if_neg (by omega), if_neg (by omega)]
  unfold pOk
  repeat' split
  all_goals (refine congrArg some (congrArg (· && mayB n kd x pc c w) ?_); rw [Bool.eq_iff_iff]; simp only [Bool.not_eq_true', Bool.not_true, Bool.false_eq_true, decide_eq_true_eq, decide_eq_false_iff_not, false_iff]; omega)
/-- What the code's last part tells. -/
def fin (pc a x p c w t : Int) : Int × Int × Int × Int × Bool :=
  if pc = 0 then (1, p, 0, 0, true) else if pc = 1 then (1, wrap64 (2 + wrap64 (2 * t)), 0, 0, true) else if pc = 2 then (1, wrap64 (1 + wrap64 (2 * t)), 0, 0, true) else if pc = 3 then (3, p, c, wrap64 (w - Int.tmod w 2), true)
  else if pc = 4 then (2, wrap64 (1 + wrap64 (2 * x)), a, 0, true) else if pc = 5 then (2, wrap64 (2 + wrap64 (2 * x)), c, 0, true) else if pc = 6 then (3, p, c, wrap64 (2 * wrap64 (x + 1)), true)
  else (3, wrap64 (2 + wrap64 (2 * t)), w, wrap64 (wrap64 (w - Int.tmod w 2) + 1), true)
def zro : Int × Int × Int × Int × Bool := (0, 0, 0, 0, false)
def c2 (n x pc c : Int) : Bool := (if (1 ≤ pc ∧ pc ≤ 3) ∨ pc = 7 then gB c else true) && (if 4 ≤ pc ∧ pc ≤ 6 then xB n x else true)
def c1 (n pc c w : Int) : Bool := (if pc > 0 then lB n c else true) && (if pc = 3 ∨ pc = 7 then lB n w else true)
def stepB (kd pc : Int) : Bool := decide ((kd = 1 ∧ 0 ≤ pc ∧ pc ≤ 6) ∨ (kd = 2 ∧ (0 ≤ pc ∧ pc ≤ 3 ∨ pc = 7)) ∨ (kd = 3 ∧ 0 ≤ pc ∧ pc ≤ 2))
section
variable (k : Nat) (n kd a x pc p c w r v : Int)
theorem j3_ (t : Int) (q : Bool) : impl_LiAct.j3 (k + 1) t q kd a x pc p c w r v false = some (if q = true then zro else fin pc a x p c w t) := by
  simp only [impl_LiAct.j3, impl_linkCell.f, impl_keyCell.f, Option.bind_some, fin, zro]
  repeat' split
  all_goals rfl
theorem j2_ (q : Bool) (hn : 1 ≤ n ∧ n ≤ 16) : impl_LiAct.j2 (k + 2) n q kd a x pc p c w r v false = some (if (!q && c2 n x pc c) = true then fin pc a x p c w (nd c) else zro) := by
  have hwn1 : wrap64 (n - 1) = n - 1 := w64 (by omega) (by omega)
  have e : impl_nodeOf.f c = some (nd c) := rfl
  have hx : impl_within.f x 0 (n - 1) = some (xB n x) := within x 0 (n - 1)
  cases q with
  | true => simp [impl_LiAct.j2, zro]
  | false =>
    simp only [impl_LiAct.j2, e, hwn1, hx, Option.bind_some, j3_, Bool.false_eq_true, if_false, Bool.not_false, Bool.true_and]
    simp only [within, Option.bind_some, decide_eq_true_eq]
    unfold c2 gB
    cases xB n x <;> repeat' split
    all_goals first | rfl | (exfalso; omega) | (exfalso; simp at *; done) | (exfalso; simp at *; omega)
theorem j1_ (q : Bool) (hn : 1 ≤ n ∧ n ≤ 16) (hc : c ≤ 9223372036854775807) (hw : w ≤ 9223372036854775807) :
    impl_LiAct.j1 (k + 3) n q kd a x pc p c w r v false = some (if (!q && c1 n pc c w && c2 n x pc c) = true then fin pc a x p c w (nd c) else zro) := by
  cases q with
  | true => simp [impl_LiAct.j1, zro]
  | false =>
    simp only [impl_LiAct.j1, isLink n c hn hc, isLink n w hn hw, Option.bind_some, j2_ k n kd a x pc p c w r v _ hn, Bool.false_eq_true, if_false, Bool.not_false, Bool.true_and, Bool.not_not]
    unfold c1
    cases c2 n x pc c <;> cases lB n c <;> cases lB n w <;> repeat' split
    all_goals first | rfl | (exfalso; omega) | (exfalso; simp at *; done) | (exfalso; simp at *; omega)
theorem j0_ (q : Bool) (hn : 1 ≤ n ∧ n ≤ 16) (hc : c ≤ 9223372036854775807) (hw : w ≤ 9223372036854775807) :
    impl_LiAct.j0 (k + 4) n q kd a x pc p c w r v false = some (if (!q && pOk n p && c1 n pc c w && c2 n x pc c) = true then fin pc a x p c w (nd c) else zro) := by
  have l0 : impl_linkCell.f 0 = some 2 := by unfold impl_linkCell.f; exact congrArg some (by decide +kernel)
  have l1 : impl_linkCell.f (wrap64 (n - 1)) = some (2 * n) := by
    unfold impl_linkCell.f
    rw [w64 (x := n - 1) (by omega) (by omega), w64 (x := 2 * (n - 1)) (by omega) (by omega), w64 (by omega) (by omega)]
    exact congrArg some (by omega)
  cases q with
  | true => simp [impl_LiAct.j0, zro]
  | false =>
    simp only [impl_LiAct.j0, l0, l1, within, tmod2, Option.bind_some, j1_ k n kd a x pc p c w r v _ hn hc hw, Bool.false_eq_true, if_false, decide_eq_true_eq, Bool.not_false, Bool.true_and, Bool.not_true, Bool.false_and]
    have hp : pOk n p = (if p = 0 then true else if 2 ≤ p ∧ p ≤ 2 * n then !decide (¬ p % 2 = 0) else false) := by
      unfold pOk
      rw [Bool.eq_iff_iff]
      repeat' split
      all_goals (simp only [decide_eq_true_eq, Bool.not_eq_true', decide_eq_false_iff_not, Bool.false_eq_true, iff_false, iff_true]; omega)
    rw [hp]
    repeat' split
    all_goals first | rfl | (simp_all; done)
theorem isStep : impl_isLiStep.f kd pc = some (stepB kd pc) := by
  unfold impl_isLiStep.f stepB
  simp only [within, Option.bind_some, decide_eq_true_eq]
  repeat' split
  all_goals (refine congrArg some ?_; rw [Bool.eq_iff_iff]; simp only [beq_iff_eq, decide_eq_true_eq, Bool.false_eq_true, true_iff, false_iff]; omega)
theorem LiAct_impl (hn : 1 ≤ n ∧ n ≤ 16) (hc : c ≤ 9223372036854775807) (hw : w ≤ 9223372036854775807) :
    impl_LiAct.f (k + 4) n kd a x pc p c w r v false = some (if (stepB kd pc && pOk n p && c1 n pc c w && c2 n x pc c) = true then fin pc a x p c w (nd c) else zro) := by
  unfold impl_LiAct.f
  rw [if_neg (by simp), within]
  simp only [Option.bind_some, decide_eq_true hn, if_true, isStep, j0_ k n kd a x pc p c w r v _ hn hc hw, Bool.not_not]
theorem lB_pos (h : lB n c = true) : 0 ≤ c := by
  simp only [lB, decide_eq_true_eq] at h; exact h.1
theorem LiAct_spec (hn : 1 ≤ n ∧ n ≤ 16) (hk : 1 ≤ kd ∧ kd ≤ 3) (hc : c ≤ 9223372036854775807) (hw : w ≤ 9223372036854775807) :
    spec_LiAct.f (k + 5) n kd a x pc p c w r v false = some (if (pOk n p && mayB n kd x pc c w) = true then fin pc a x p c w (nd c) else zro) := by
  have e : spec_l05Node.f c = some (nd c) := rfl
  unfold spec_LiAct.f
  rw [May k n kd a x pc p c w r v false hn hk hc hw rfl, e]
  simp only [Option.bind_some, spec_l03Load.f, spec_l03Store.f, spec_l03Cas.f]
  by_cases h : (pOk n p && mayB n kd x pc c w) = true
  · rw [if_pos h, if_pos h]
    have hm := (Bool.and_eq_true_iff.1 h).2
    unfold fin
    have hw2 : lB n w = true → wrap64 (wrap64 (Int.tdiv w 2) * 2) = wrap64 (w - Int.tmod w 2) := by
      intro h0
      have h0 := lB_pos n w h0
      rw [half w h0 hw, Int.tmod_eq_emod_of_nonneg h0]
      congr 1; omega
    rcases pcs_all pc with rfl | rfl | rfl | rfl | rfl | rfl | rfl | rfl | h | h
    · rfl
    · rfl
    · rfl
    · have : lB n w = true := by
        cases h9 : lB n w
        · simp [mayB, h9] at hm
        · rfl
      simp [hw2 this]
    · rfl
    · rfl
    · rfl
    · have : lB n w = true := by
        cases h9 : lB n w
        · simp [mayB, h9] at hm
        · rfl
      simp [hw2 this]
    · exfalso; unfold mayB at hm
      rw [if_neg (by omega), if_neg (by omega)] at hm
      split at hm
      · simp at hm
      · rw [if_neg (by omega), if_neg (by omega), if_neg (by omega)] at hm; simp at hm
    · exfalso; unfold mayB at hm
      rw [if_neg (by omega), if_neg (by omega)] at hm
      split at hm
      · simp at hm
      · rw [if_neg (by omega), if_neg (by omega), if_neg (by omega)] at hm; simp at hm
  · rw [if_neg h, if_neg h]; rfl
theorem same_may (hk : 1 ≤ kd ∧ kd ≤ 3) : (stepB kd pc && c1 n pc c w && c2 n x pc c) = mayB n kd x pc c w := by
  unfold c1 c2 mayB
  generalize lB n c = L
  generalize gB c = G
  generalize lB n w = M
  generalize xB n x = X
  rcases (show kd = 1 ∨ kd = 2 ∨ kd = 3 by omega) with rfl | rfl | rfl <;> rcases pcs_all pc with rfl | rfl | rfl | rfl | rfl | rfl | rfl | rfl | h | h <;>
    first
    | (cases L <;> cases G <;> cases M <;> cases X <;> rfl)
    | (have s : ∀ q, 1 ≤ q → q ≤ 3 → stepB q pc = false := fun q _ _ => by unfold stepB; rw [decide_eq_false (by omega)]
       have e0 : ¬ pc = 0 := by omega
       have e1 : ¬ pc = 1 := by omega
       have e2 : ¬ pc = 2 := by omega
       have e3 : ¬ pc = 3 := by omega
       have e7 : ¬ pc = 7 := by omega
       by_cases e6 : 4 ≤ pc
       · have e5 : ¬ pc ≤ 6 := by omega
         simp [s, e0, e1, e2, e3, e7, e6, e5]
       · simp [s, e0, e1, e2, e3, e7, e6])
theorem LiAct_both (done : Bool) (hc : c ≤ 9223372036854775807) (hw : w ≤ 9223372036854775807) :
    ∃ q0 q1 q2 q3 q4, spec_LiAct.f (k + 5) n kd a x pc p c w r v done = some (q0, q1, q2, q3, q4) ∧ impl_LiAct.f (k + 5) n kd a x pc p c w r v done = some (q0, q1, q2, q3, q4) := by
  by_cases hd : done = true
  · subst hd
    exact ⟨0, 0, 0, 0, false, by simp [spec_LiAct.f, spec_l05May.f, spec_l05May.j0], by simp [impl_LiAct.f, impl_LiAct.j0]⟩
  · obtain rfl : done = false := by simpa using hd
    by_cases hn : 1 ≤ n ∧ n ≤ 16
    · have hz : spec_l03Size.f n = some true := by unfold spec_l03Size.f; rw [if_pos (by omega), decide_eq_true hn.2]
      by_cases hk : 1 ≤ kd ∧ kd ≤ 3
      · have h1 := LiAct_spec k n kd a x pc p c w r v hn hk hc hw
        have h2 := LiAct_impl (k + 1) n kd a x pc p c w r v hn hc hw
        rw [show (stepB kd pc && pOk n p && c1 n pc c w && c2 n x pc c) = (pOk n p && (stepB kd pc && c1 n pc c w && c2 n x pc c)) by cases stepB kd pc <;> cases pOk n p <;> simp, same_may n kd x pc c w hk] at h2
        exact ⟨_, _, _, _, _, h1, h2⟩
      · refine ⟨0, 0, 0, 0, false, ?_, ?_⟩
        · have : kd < 1 ∨ (¬ kd < 1 ∧ kd > 3) := by omega
          rcases this with h | h <;> simp [spec_LiAct.f, spec_l05May.f, spec_l05May.j0, hz, h]
        · have : stepB kd pc = false := by unfold stepB; rw [decide_eq_false (by omega)]
          have h2 := LiAct_impl (k + 1) n kd a x pc p c w r v hn hc hw
          rw [this] at h2
          exact h2
    · have hz : spec_l03Size.f n = some false := by
        unfold spec_l03Size.f
        split
        · rw [decide_eq_false (by omega)]
        · rfl
      exact ⟨0, 0, 0, 0, false, by simp [spec_LiAct.f, spec_l05May.f, spec_l05May.j0, hz], by simp [impl_LiAct.f, impl_LiAct.j0, within, hn]⟩
end


theorem FnExactLiAct : laws_FnExactLiAct.Pure := by
  intro n kd a x pc p c w r v done _ ⟨_, _, _, _, _, hc, hw, _, _, _⟩
  refine ⟨5, ?_⟩
  obtain ⟨q0, q1, q2, q3, q4, h1, h2⟩ := LiAct_both 0 n kd a x pc p c w r v done (i64r hc).2 (i64r hw).2
  unfold laws_FnExactLiAct.f laws_toCall.f
  simp only [Option.bind_some]
  rw [h1, h2]
  simp [laws_eqAct.f]

end Go.Proofs.Ytjikobdblohphaa.Pure
