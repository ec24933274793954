/- The law FnExactLiStep answers true whatever its arguments hold: the program's function and the reference's come to the same, and no list of an answer is shared. No condition. -/
import Derived.Test.YtjikobdblohphaaPFnExactLiStepx12
namespace Go.Proofs.Ytjikobdblohphaa.Pure
open Go.RowKit Go.Proofs.Ytjikobdblohphaa.PFnExactLiStep Go.Proofs.YtjikobdblohphaaW.PrintWords Go.Proofs.YtjikobdblohphaaW.PrintLast
set_option linter.unusedSimpArgs false
set_option linter.unusedVariables false

/-! Small facts. -/
theorem w64 {x : Int} (h0 : -9223372036854775808 ≤ x) (h1 : x ≤ 9223372036854775807) : wrap64 x = x := by unfold wrap64; omega
theorem rd_nat (l : List Int) (j : Nat) : rd l (j : Int) = l.getD j 0 := by simp [rd]
/-- The numbers from m on, n of them. -/
def marked (m : Int) (n : Nat) : List Int := (List.range n).map fun (i : Nat) => m + (i : Int)
theorem marked_len (m : Int) (n : Nat) : (marked m n).length = n := by simp [marked]
theorem marked_get (m : Int) (n j : Nat) (h : j < n) : (marked m n).getD j 0 = m + j := by simp [marked, List.getD, h]
theorem neg1 (n : Nat) : ((1 : Int) + (n : Int) < 0) = False := by simp only [eq_iff_iff, iff_false]; omega
theorem neg0 : ((-1 : Int) < 0) = True := by simp
theorem i64r {n : Int} (h : (Lit.int .i64 n).wf = true) : -9223372036854775808 ≤ n ∧ n ≤ 9223372036854775807 := by
  have e1 : IntKind.i64.min = -9223372036854775808 := by decide
  have e2 : IntKind.i64.max = 9223372036854775807 := by decide
  simp only [Lit.wf, Bool.and_eq_true, decide_eq_true_eq, e1, e2] at h
  exact h

theorem within (a lo hi : Int) : impl_within.f a lo hi = some (decide (lo ≤ a ∧ a ≤ hi)) := by
  unfold impl_within.f
  by_cases h : a ≥ lo
  · rw [if_pos h]
    have h' : lo ≤ a := h
    simp [h']
  · rw [if_neg h]
    have h' : ¬ lo ≤ a := h
    simp [h']

theorem l01In (a lo hi : Int) : spec_l01In.f a lo hi = some (decide (lo ≤ a ∧ a ≤ hi)) := by
  unfold spec_l01In.f
  by_cases h : a ≥ lo
  · rw [if_pos h]
    have h' : lo ≤ a := h
    simp [h']
  · rw [if_neg h]
    have h' : ¬ lo ≤ a := h
    simp [h']

/-! Lists of numbers: copied, compared, marked, held. -/
theorem toIntS_go (x0 : List Int) (hx : x0.length ≤ 140737488355328) (d : Nat) : ∀ (k j : Nat) (x3 : List Int), x3.length = x0.length → x0.length - j = d → j ≤ x0.length → d < k → (∀ i, i < j → x3[i]? = x0[i]?) → laws_toIntS.l0 k x0 x3 (j : Int) = some x0 := by
  induction d with
  | zero =>
    intro k j x3 hl hd hj hk he
    obtain ⟨k, rfl⟩ : ∃ m, k = m + 1 := ⟨k - 1, by omega⟩
    simp only [laws_toIntS.l0]
    rw [if_neg (by omega)]
    refine congrArg some (List.ext_getElem? fun i => ?_)
    by_cases hi : i < j
    · exact he i hi
    · rw [List.getElem?_eq_none (by omega), List.getElem?_eq_none (by omega)]
  | succ d ih =>
    intro k j x3 hl hd hj hk he
    obtain ⟨k, rfl⟩ : ∃ m, k = m + 1 := ⟨k - 1, by omega⟩
    simp only [laws_toIntS.l0]
    rw [if_pos (by omega), if_pos (by omega), if_pos (by omega), w64 (by omega) (by omega)]
    refine ih k (j + 1) _ (by simpa using hl) (by omega) (by omega) (by omega) ?_
    intro i hi
    rw [rd_nat, Int.toNat_natCast, List.getElem?_set]
    by_cases hij : j = i
    · subst hij
      rw [if_pos rfl, if_pos (by omega), List.getElem?_eq_getElem (by omega)]
      simp [List.getD, List.getElem?_eq_getElem (show j < x0.length by omega)]
    · rw [if_neg hij]
      exact he i (by omega)
theorem toIntS (k : Nat) (l : List Int) (hl : l.length ≤ 1048576) (hk : l.length < k) : laws_toIntS.f k l = some l := by
  unfold laws_toIntS.f
  rw [if_pos (by omega), if_pos (by omega)]
  exact toIntS_go l (by omega) l.length k 0 _ (by simp) (by omega) (by omega) (by omega) (fun i hi => absurd hi (by omega))
theorem eqIntS_go (x : List Int) (hx : x.length ≤ 140737488355328) (d : Nat) : ∀ (k j : Nat), x.length - j = d → j ≤ x.length → d < k → laws_eqIntS.l0 k x x (j : Int) = some true := by
  induction d with
  | zero =>
    intro k j hd hj hk
    obtain ⟨k, rfl⟩ : ∃ m, k = m + 1 := ⟨k - 1, by omega⟩
    simp only [laws_eqIntS.l0]
    rw [if_neg (by omega)]
  | succ d ih =>
    intro k j hd hj hk
    obtain ⟨k, rfl⟩ : ∃ m, k = m + 1 := ⟨k - 1, by omega⟩
    simp only [laws_eqIntS.l0]
    rw [if_pos (by omega), if_pos (by omega), if_pos (by omega), if_pos trivial, w64 (by omega) (by omega)]
    exact ih k (j + 1) (by omega) (by omega) (by omega)
theorem eqIntS (k : Nat) (l : List Int) (hl : l.length ≤ 140737488355328) (hk : l.length < k) : laws_eqIntS.f k l l = some true := by
  unfold laws_eqIntS.f
  rw [if_pos rfl]
  exact eqIntS_go l hl l.length k 0 (by omega) (by omega) hk

theorem markIntS_go (n : Nat) (hn : n ≤ 140737488355328) (m : Int) (hm0 : 0 ≤ m) (hm : m + n ≤ 140737488355328) (d : Nat) : ∀ (k j : Nat) (x0 : List Int), x0.length = n → n - j = d → j ≤ n → d < k → (∀ i, i < j → x0[i]? = some (m + i)) →
    laws_markIntS.l0 k x0 (m + j) (j : Int) = some (m + n, marked m n) := by
  induction d with
  | zero =>
    intro k j x0 hl hd hj hk he
    obtain ⟨k, rfl⟩ : ∃ m, k = m + 1 := ⟨k - 1, by omega⟩
    simp only [laws_markIntS.l0]
    rw [if_neg (by omega)]
    obtain rfl : j = n := by omega
    refine congrArg some (Prod.ext rfl (List.ext_getElem? fun i => ?_))
    show x0[i]? = (marked m j)[i]?
    by_cases hi : i < j
    · rw [he i hi]; simp [marked, hi]
    · rw [List.getElem?_eq_none (by omega), List.getElem?_eq_none (by rw [marked_len]; omega)]
  | succ d ih =>
    intro k j x0 hl hd hj hk he
    obtain ⟨k, rfl⟩ : ∃ m, k = m + 1 := ⟨k - 1, by omega⟩
    simp only [laws_markIntS.l0]
    rw [if_pos (by omega), if_pos (by omega), w64 (by omega) (by omega), w64 (by omega) (by omega), show m + (j : Int) + 1 = m + ((j + 1 : Nat) : Int) by omega]
    refine ih k (j + 1) _ (by simpa using hl) (by omega) (by omega) (by omega) ?_
    intro i hi
    rw [Int.toNat_natCast, List.getElem?_set]
    by_cases hij : j = i
    · subst hij
      rw [if_pos rfl, if_pos (by omega)]
    · rw [if_neg hij]
      exact he i (by omega)
theorem markIntS (k : Nat) (l : List Int) (m : Int) (hm0 : 0 ≤ m) (hm : m + l.length ≤ 140737488355328) (hk : l.length < k) : laws_markIntS.f k l m = some (m + l.length, marked m l.length) := by
  unfold laws_markIntS.f
  have := markIntS_go l.length (by omega) m hm0 hm l.length k 0 l rfl (by omega) (by omega) hk (fun i hi => absurd hi (by omega))
  simpa using this
theorem heldIntS_go (n : Nat) (m : Int) (hm0 : 0 ≤ m) (hm : m + n ≤ 140737488355328) (d : Nat) : ∀ (k j : Nat), n - j = d → j ≤ n → d < k → laws_heldIntS.l0 k (marked m n) (m + j) (j : Int) = some (m + n) := by
  induction d with
  | zero =>
    intro k j hd hj hk
    obtain ⟨k, rfl⟩ : ∃ m, k = m + 1 := ⟨k - 1, by omega⟩
    simp only [laws_heldIntS.l0, marked_len]
    rw [if_neg (by omega)]
    obtain rfl : j = n := by omega
    rfl
  | succ d ih =>
    intro k j hd hj hk
    obtain ⟨k, rfl⟩ : ∃ m, k = m + 1 := ⟨k - 1, by omega⟩
    simp only [laws_heldIntS.l0, marked_len]
    rw [if_pos (by omega), if_pos (by omega), if_pos (by rw [rd_nat]; exact marked_get m n j (by omega)), w64 (by omega) (by omega), w64 (by omega) (by omega), show m + (j : Int) + 1 = m + ((j + 1 : Nat) : Int) by omega]
    exact ih k (j + 1) (by omega) (by omega) (by omega)
theorem heldIntS (k : Nat) (n : Nat) (m : Int) (hm0 : 0 ≤ m) (hm : m + n ≤ 140737488355328) (hk : n < k) : laws_heldIntS.f k (marked m n) m = some (m + n) := by
  unfold laws_heldIntS.f
  have := heldIntS_go n m hm0 hm n k 0 (by omega) (by omega) hk
  simpa using this

theorem szMem_big (l : List Int) (hl : l.length ≤ maxLen) (h : 1048576 < l.length) : laws_szMem.f l 1048576 = some (-1) := by
  simp only [maxLen] at hl
  unfold laws_szMem.f laws_szIntS.f
  rw [w64 (by omega) (by omega), if_pos (by omega)]
  rfl
theorem szMem_small (l : List Int) (h : l.length ≤ 1048576) : laws_szMem.f l 1048576 = some (1048576 - (l.length : Int)) := by
  unfold laws_szMem.f laws_szIntS.f
  rw [w64 (by omega) (by omega), if_neg (by omega)]
  simp only [Option.bind_some]
  rw [if_neg (by omega)]
theorem toMem (k : Nat) (l : List Int) (hl : l.length ≤ 1048576) (hk : l.length < k) : laws_toMem.f k l = some l := by
  unfold laws_toMem.f
  rw [toIntS k l hl hk]; rfl
theorem eqMem (k : Nat) (l : List Int) (hl : l.length ≤ 1048576) (hk : l.length < k) : laws_eqMem.f k l l = some true := by
  unfold laws_eqMem.f
  rw [eqIntS k l (by omega) hk]; rfl

theorem markMem (k : Nat) (l : List Int) (hl : l.length ≤ 1048576) (hk : l.length < k) : laws_markMem.f k l 1 = some (1 + (l.length : Int), marked 1 l.length) := by
  unfold laws_markMem.f
  rw [markIntS k l 1 (by omega) (by omega) hk]; rfl
theorem heldMem (k n : Nat) (hn : n ≤ 1048576) (hk : n < k) : laws_heldMem.f k (marked 1 n) 1 = some (1 + (n : Int)) := by
  unfold laws_heldMem.f
  rw [heldIntS k n 1 (by omega) (by omega) hk]
  simp only [Option.bind_some]
  rw [if_neg (by omega)]

/-! LiAct: both come to the same. -/
theorem half (c : Int) (h0 : 0 ≤ c) (h1 : c ≤ 9223372036854775807) : wrap64 (Int.tdiv c 2) = c / 2 := by
  rw [Int.tdiv_eq_ediv_of_nonneg h0, w64 (by omega) (by omega)]
/-- The node that a word tells, as the code computes it. -/
def nd (c : Int) : Int := wrap64 (wrap64 (Int.tdiv c 2) - 1)
theorem nd_pos (c : Int) (h0 : 0 ≤ c) (h1 : c ≤ 9223372036854775807) : nd c = c / 2 - 1 := by
  unfold nd; rw [half c h0 h1, w64 (by omega) (by omega)]
def lB (n c : Int) : Bool := decide (0 ≤ c ∧ c / 2 ≤ n)
def gB (c : Int) : Bool := decide (0 ≤ nd c)
def xB (n x : Int) : Bool := decide (0 ≤ x ∧ x ≤ n - 1)
theorem l05Link (n c : Int) (h1 : c ≤ 9223372036854775807) : spec_l05Link.f n c = some (lB n c) := by
  unfold spec_l05Link.f lB
  by_cases h : c ≥ 0
  · have h' : 0 ≤ c := h
    rw [if_pos h, half c h' h1]; simp [h']
  · have h' : ¬ 0 ≤ c := h
    rw [if_neg h]; simp [h']
theorem l05There (n c : Int) (h1 : c ≤ 9223372036854775807) : spec_l05There.f n c = some (lB n c && gB c) := by
  unfold spec_l05There.f
  rw [l05Link n c h1]
  simp only [Option.bind_some]
  by_cases h : lB n c = true
  · rw [if_pos h, h]
    simp only [lB, decide_eq_true_eq] at h
    rw [half c h.1 h1]
    refine congrArg some ?_
    unfold gB
    rw [nd_pos c h.1 h1, Bool.true_and, Bool.eq_iff_iff]
    simp only [decide_eq_true_eq]; omega
  · rw [if_neg h]; simp at h; simp [h]
theorem isLink (n c : Int) (hn : 1 ≤ n ∧ n ≤ 16) (h1 : c ≤ 9223372036854775807) : impl_isLink.f c n = some (lB n c) := by
  unfold impl_isLink.f lB impl_nodeOf.f
  by_cases h : c ≥ 0
  · have h' : 0 ≤ c := h
    rw [if_pos h, half c h' h1, w64 (by omega) (by omega)]
    simp only [Option.bind_some, h', true_and]
    refine congrArg some ?_
    rw [Bool.eq_iff_iff]; simp only [decide_eq_true_eq]; omega
  · have h' : ¬ 0 ≤ c := h
    rw [if_neg h]; simp [h']
/-- Whether P is the head link or the link of a node. -/
def pOk (n p : Int) : Bool := decide (0 ≤ p ∧ p ≤ 2 * n ∧ p % 2 = 0)
/-- What a step of a kind needs. -/
def mayB (n kd x pc c w : Int) : Bool :=
  if pc = 0 then true else if pc = 1 ∨ pc = 2 then lB n c && gB c else if kd = 3 then false else if pc = 3 then lB n c && gB c && lB n w
  else if 4 ≤ pc ∧ pc ≤ 6 then decide (kd = 1) && xB n x && lB n c else if pc = 7 ∧ kd = 2 then lB n c && gB c && lB n w else false
theorem tmod2 (p : Int) : (Int.tmod p 2 != 0) = decide (¬ p % 2 = 0) := by
  rw [Int.tmod_eq_emod, Bool.eq_iff_iff]
  simp only [bne_iff_ne, ne_eq, decide_eq_true_eq]
  split <;> simp <;> omega
def pcs (pc : Int) : Prop := pc = 0 ∨ pc = 1 ∨ pc = 2 ∨ pc = 3 ∨ pc = 4 ∨ pc = 5 ∨ pc = 6 ∨ pc = 7 ∨ pc < 0 ∨ 7 < pc
theorem pcs_all (pc : Int) : pcs pc := by unfold pcs; omega
theorem May (k : Nat) (n kd a x pc p c w r v : Int) (done : Bool) (hn : 1 ≤ n ∧ n ≤ 16) (hk : 1 ≤ kd ∧ kd ≤ 3) (hc : c ≤ 9223372036854775807) (hw : w ≤ 9223372036854775807) (hd : done = false) :
    spec_l05May.f (k + 5) n kd a x pc p c w r v done = some (pOk n p && mayB n kd x pc c w) := by
  subst hd
  have hz : spec_l03Size.f n = some true := by unfold spec_l03Size.f; rw [if_pos (by omega), decide_eq_true hn.2]
  have hwn : wrap64 (2 * n) = 2 * n := w64 (by omega) (by omega)
  have hwn1 : wrap64 (n - 1) = n - 1 := w64 (by omega) (by omega)
  have hx : spec_l01In.f x 0 (n - 1) = some (xB n x) := l01In x 0 (n - 1)
  have step : ∀ q, spec_l05May.j0 (k + 5) n q kd a x pc p c w r v false = some (!q && mayB n kd x pc c w) := by
    intro q
    cases q with
    | true => simp [spec_l05May.j0]
    | false =>
      simp only [spec_l05May.j0, spec_l05May.j1, spec_l05May.j2, l05There n c hc, l05Link n c hc, l05Link n w hw, hx, hwn1, Option.bind_some, Bool.not_false, Bool.true_and]
      unfold mayB
      generalize lB n c = L
      generalize gB c = G
      generalize lB n w = M
      generalize xB n x = X
      rcases (show kd = 1 ∨ kd = 2 ∨ kd = 3 by omega) with rfl | rfl | rfl <;> rcases pcs_all pc with rfl | rfl | rfl | rfl | rfl | rfl | rfl | rfl | h | h <;>
        first
        | (cases L <;> cases G <;> cases M <;> cases X <;> rfl)
        | (have e0 : ¬ pc = 0 := by omega
           have e1 : ¬ pc = 1 := by omega
           have e2 : ¬ pc = 2 := by omega
           have e3 : ¬ pc = 3 := by omega
           have e4 : ¬ (4 ≤ pc ∧ pc ≤ 6) := by omega
           have e7 : ¬ pc = 7 := by omega
           have e5 : 4 ≤ pc → ¬ pc ≤ 6 := fun h h2 => e4 ⟨h, h2⟩
           by_cases e6 : 4 ≤ pc
           · simp [e0, e1, e2, e3, e7, e6, e5 e6]
           · simp [e0, e1, e2, e3, e7, e6])
  unfold spec_l05May.f
  rw [if_neg (by simp), hz]
  simp only [Option.bind_some, if_true, hwn, tmod2, step]
  rw [if_neg (by omega), if_neg (by omega)]
  unfold pOk
  repeat' split
  all_goals (refine congrArg some (congrArg (· && mayB n kd x pc c w) ?_); rw [Bool.eq_iff_iff]; simp only [Bool.not_eq_true', Bool.not_true, Bool.false_eq_true, decide_eq_true_eq, decide_eq_false_iff_not, false_iff]; omega)
/-- What the code's last part tells. -/
def fin (pc a x p c w t : Int) : Int × Int × Int × Int × Bool :=
  if pc = 0 then (1, p, 0, 0, true) else if pc = 1 then (1, wrap64 (2 + wrap64 (2 * t)), 0, 0, true) else if pc = 2 then (1, wrap64 (1 + wrap64 (2 * t)), 0, 0, true) else if pc = 3 then (3, p, c, wrap64 (w - Int.tmod w 2), true)
  else if pc = 4 then (2, wrap64 (1 + wrap64 (2 * x)), a, 0, true) else if pc = 5 then (2, wrap64 (2 + wrap64 (2 * x)), c, 0, true) else if pc = 6 then (3, p, c, wrap64 (2 * wrap64 (x + 1)), true)
  else (3, wrap64 (2 + wrap64 (2 * t)), w, wrap64 (wrap64 (w - Int.tmod w 2) + 1), true)
def zro : Int × Int × Int × Int × Bool := (0, 0, 0, 0, false)
def c2 (n x pc c : Int) : Bool := (if (1 ≤ pc ∧ pc ≤ 3) ∨ pc = 7 then gB c else true) && (if 4 ≤ pc ∧ pc ≤ 6 then xB n x else true)
def c1 (n pc c w : Int) : Bool := (if pc > 0 then lB n c else true) && (if pc = 3 ∨ pc = 7 then lB n w else true)
def stepB (kd pc : Int) : Bool := decide ((kd = 1 ∧ 0 ≤ pc ∧ pc ≤ 6) ∨ (kd = 2 ∧ (0 ≤ pc ∧ pc ≤ 3 ∨ pc = 7)) ∨ (kd = 3 ∧ 0 ≤ pc ∧ pc ≤ 2))
section
variable (k : Nat) (n kd a x pc p c w r v : Int)
theorem j3_ (t : Int) (q : Bool) : impl_LiAct.j3 (k + 1) t q kd a x pc p c w r v false = some (if q = true then zro else fin pc a x p c w t) := by
  simp only [impl_LiAct.j3, impl_linkCell.f, impl_keyCell.f, Option.bind_some, fin, zro]
  repeat' split
  all_goals rfl
theorem j2_ (q : Bool) (hn : 1 ≤ n ∧ n ≤ 16) : impl_LiAct.j2 (k + 2) n q kd a x pc p c w r v false = some (if (!q && c2 n x pc c) = true then fin pc a x p c w (nd c) else zro) := by
  have hwn1 : wrap64 (n - 1) = n - 1 := w64 (by omega) (by omega)
  have e : impl_nodeOf.f c = some (nd c) := rfl
  have hx : impl_within.f x 0 (n - 1) = some (xB n x) := within x 0 (n - 1)
  cases q with
  | true => simp [impl_LiAct.j2, zro]
  | false =>
    simp only [impl_LiAct.j2, e, hwn1, hx, Option.bind_some, j3_, Bool.false_eq_true, if_false, Bool.not_false, Bool.true_and]
    simp only [within, Option.bind_some, decide_eq_true_eq]
    unfold c2 gB
    cases xB n x <;> repeat' split
    all_goals first | rfl | (exfalso; omega) | (exfalso; simp at *; done) | (exfalso; simp at *; omega)
theorem j1_ (q : Bool) (hn : 1 ≤ n ∧ n ≤ 16) (hc : c ≤ 9223372036854775807) (hw : w ≤ 9223372036854775807) :
    impl_LiAct.j1 (k + 3) n q kd a x pc p c w r v false = some (if (!q && c1 n pc c w && c2 n x pc c) = true then fin pc a x p c w (nd c) else zro) := by
  cases q with
  | true => simp [impl_LiAct.j1, zro]
  | false =>
    simp only [impl_LiAct.j1, isLink n c hn hc, isLink n w hn hw, Option.bind_some, j2_ k n kd a x pc p c w r v _ hn, Bool.false_eq_true, if_false, Bool.not_false, Bool.true_and, Bool.not_not]
    unfold c1
    cases c2 n x pc c <;> cases lB n c <;> cases lB n w <;> repeat' split
    all_goals first | rfl | (exfalso; omega) | (exfalso; simp at *; done) | (exfalso; simp at *; omega)
theorem j0_ (q : Bool) (hn : 1 ≤ n ∧ n ≤ 16) (hc : c ≤ 9223372036854775807) (hw : w ≤ 9223372036854775807) :
    impl_LiAct.j0 (k + 4) n q kd a x pc p c w r v false = some (if (!q && pOk n p && c1 n pc c w && c2 n x pc c) = true then fin pc a x p c w (nd c) else zro) := by
  have l0 : impl_linkCell.f 0 = some 2 := by unfold impl_linkCell.f; exact congrArg some (by decide +kernel)
  have l1 : impl_linkCell.f (wrap64 (n - 1)) = some (2 * n) := by
    unfold impl_linkCell.f
    rw [w64 (x := n - 1) (by omega) (by omega), w64 (x := 2 * (n - 1)) (by omega) (by omega), w64 (by omega) (by omega)]
    exact congrArg some (by omega)
  cases q with
  | true => simp [impl_LiAct.j0, zro]
  | false =>
    simp only [impl_LiAct.j0, l0, l1, within, tmod2, Option.bind_some, j1_ k n kd a x pc p c w r v _ hn hc hw, Bool.false_eq_true, if_false, decide_eq_true_eq, Bool.not_false, Bool.true_and, Bool.not_true, Bool.false_and]
    have hp : pOk n p = (if p = 0 then true else if 2 ≤ p ∧ p ≤ 2 * n then !decide (¬ p % 2 = 0) else false) := by
      unfold pOk
      rw [Bool.eq_iff_iff]
      repeat' split
      all_goals (simp only [decide_eq_true_eq, Bool.not_eq_true', decide_eq_false_iff_not, Bool.false_eq_true, iff_false, iff_true]; omega)
    rw [hp]
    repeat' split
    all_goals first | rfl | (simp_all; done)
theorem isStep : impl_isLiStep.f kd pc = some (stepB kd pc) := by
  unfold impl_isLiStep.f stepB
  simp only [within, Option.bind_some, decide_eq_true_eq]
  repeat' split
  all_goals (refine congrArg some ?_; rw [Bool.eq_iff_iff]; simp only [beq_iff_eq, decide_eq_true_eq, Bool.false_eq_true, true_iff, false_iff]; omega)
theorem LiAct_impl (hn : 1 ≤ n ∧ n ≤ 16) (hc : c ≤ 9223372036854775807) (hw : w ≤ 9223372036854775807) :
    impl_LiAct.f (k + 4) n kd a x pc p c w r v false = some (if (stepB kd pc && pOk n p && c1 n pc c w && c2 n x pc c) = true then fin pc a x p c w (nd c) else zro) := by
  unfold impl_LiAct.f
  rw [if_neg (by simp), within]
  simp only [Option.bind_some, decide_eq_true hn, if_true, isStep, j0_ k n kd a x pc p c w r v _ hn hc hw, Bool.not_not]
theorem lB_pos (h : lB n c = true) : 0 ≤ c := by
  simp only [lB, decide_eq_true_eq] at h; exact h.1
theorem LiAct_spec (hn : 1 ≤ n ∧ n ≤ 16) (hk : 1 ≤ kd ∧ kd ≤ 3) (hc : c ≤ 9223372036854775807) (hw : w ≤ 9223372036854775807) :
    spec_LiAct.f (k + 5) n kd a x pc p c w r v false = some (if (pOk n p && mayB n kd x pc c w) = true then fin pc a x p c w (nd c) else zro) := by
  have e : spec_l05Node.f c = some (nd c) := rfl
  unfold spec_LiAct.f
  rw [May k n kd a x pc p c w r v false hn hk hc hw rfl, e]
  simp only [Option.bind_some, spec_l03Load.f, spec_l03Store.f, spec_l03Cas.f]
  by_cases h : (pOk n p && mayB n kd x pc c w) = true
  · rw [if_pos h, if_pos h]
    have hm := (Bool.and_eq_true_iff.1 h).2
    unfold fin
    have hw2 : lB n w = true → wrap64 (wrap64 (Int.tdiv w 2) * 2) = wrap64 (w - Int.tmod w 2) := by
      intro h0
      have h0 := lB_pos n w h0
      rw [half w h0 hw, Int.tmod_eq_emod_of_nonneg h0]
      congr 1; omega
    rcases pcs_all pc with rfl | rfl | rfl | rfl | rfl | rfl | rfl | rfl | h | h
    · rfl
    · rfl
    · rfl
    · have : lB n w = true := by
        cases h9 : lB n w
        · simp [mayB, h9] at hm
        · rfl
      simp [hw2 this]
    · rfl
    · rfl
    · rfl
    · have : lB n w = true := by
        cases h9 : lB n w
        · simp [mayB, h9] at hm
        · rfl
      simp [hw2 this]
    · exfalso; unfold mayB at hm
      rw [if_neg (by omega), if_neg (by omega)] at hm
      split at hm
      · simp at hm
      · rw [if_neg (by omega), if_neg (by omega), if_neg (by omega)] at hm; simp at hm
    · exfalso; unfold mayB at hm
      rw [if_neg (by omega), if_neg (by omega)] at hm
      split at hm
      · simp at hm
      · rw [if_neg (by omega), if_neg (by omega), if_neg (by omega)] at hm; simp at hm
  · rw [if_neg h, if_neg h]; rfl
theorem same_may (hk : 1 ≤ kd ∧ kd ≤ 3) : (stepB kd pc && c1 n pc c w && c2 n x pc c) = mayB n kd x pc c w := by
  unfold c1 c2 mayB
  generalize lB n c = L
  generalize gB c = G
  generalize lB n w = M
  generalize xB n x = X
  rcases (show kd = 1 ∨ kd = 2 ∨ kd = 3 by omega) with rfl | rfl | rfl <;> rcases pcs_all pc with rfl | rfl | rfl | rfl | rfl | rfl | rfl | rfl | h | h <;>
    first
    | (cases L <;> cases G <;> cases M <;> cases X <;> rfl)
    | (have s : ∀ q, 1 ≤ q → q ≤ 3 → stepB q pc = false := fun q _ _ => by unfold stepB; rw [decide_eq_false (by omega)]
       have e0 : ¬ pc = 0 := by omega
       have e1 : ¬ pc = 1 := by omega
       have e2 : ¬ pc = 2 := by omega
       have e3 : ¬ pc = 3 := by omega
       have e7 : ¬ pc = 7 := by omega
       by_cases e6 : 4 ≤ pc
       · have e5 : ¬ pc ≤ 6 := by omega
         simp [s, e0, e1, e2, e3, e7, e6, e5]
       · simp [s, e0, e1, e2, e3, e7, e6])
theorem LiAct_both (done : Bool) (hc : c ≤ 9223372036854775807) (hw : w ≤ 9223372036854775807) :
    ∃ q0 q1 q2 q3 q4, spec_LiAct.f (k + 5) n kd a x pc p c w r v done = some (q0, q1, q2, q3, q4) ∧ impl_LiAct.f (k + 5) n kd a x pc p c w r v done = some (q0, q1, q2, q3, q4) := by
  by_cases hd : done = true
  · subst hd
    exact ⟨0, 0, 0, 0, false, by simp [spec_LiAct.f, spec_l05May.f, spec_l05May.j0], by simp [impl_LiAct.f, impl_LiAct.j0]⟩
  · obtain rfl : done = false := by simpa using hd
    by_cases hn : 1 ≤ n ∧ n ≤ 16
    · have hz : spec_l03Size.f n = some true := by unfold spec_l03Size.f; rw [if_pos (by omega), decide_eq_true hn.2]
      by_cases hk : 1 ≤ kd ∧ kd ≤ 3
      · have h1 := LiAct_spec k n kd a x pc p c w r v hn hk hc hw
        have h2 := LiAct_impl (k + 1) n kd a x pc p c w r v hn hc hw
        rw [show (stepB kd pc && pOk n p && c1 n pc c w && c2 n x pc c) = (pOk n p && (stepB kd pc && c1 n pc c w && c2 n x pc c)) by cases stepB kd pc <;> cases pOk n p <;> simp, same_may n kd x pc c w hk] at h2
        exact ⟨_, _, _, _, _, h1, h2⟩
      · refine ⟨0, 0, 0, 0, false, ?_, ?_⟩
        · have : kd < 1 ∨ (¬ kd < 1 ∧ kd > 3) := by omega
          rcases this with h | h <;> simp [spec_LiAct.f, spec_l05May.f, spec_l05May.j0, hz, h]
        · have : stepB kd pc = false := by unfold stepB; rw [decide_eq_false (by omega)]
          have h2 := LiAct_impl (k + 1) n kd a x pc p c w r v hn hc hw
          rw [this] at h2
          exact h2
    · have hz : spec_l03Size.f n = some false := by
        unfold spec_l03Size.f
        split
        · rw [decide_eq_false (by omega)]
        · rfl
      exact ⟨0, 0, 0, 0, false, by simp [spec_LiAct.f, spec_l05May.f, spec_l05May.j0, hz], by simp [impl_LiAct.f, impl_LiAct.j0, within, hn]⟩
end

/-! ActOk. -/
def okB (l : List Int) (kd at_ a b : Int) : Bool := decide (1 ≤ kd ∧ kd ≤ 4 ∧ 0 ≤ at_ ∧ at_ < l.length ∧ l.length ≤ 300 ∧ (kd = 1 → a = 0) ∧ (kd ≠ 3 → b = 0))
theorem spec_ActOk (l : List Int) (kd at_ a b : Int) : spec_ActOk.f l kd at_ a b = some (okB l kd at_ a b) := by
  unfold spec_ActOk.f okB
  repeat' split
  all_goals (refine congrArg some ?_; rw [Bool.eq_iff_iff]; simp only [beq_iff_eq, decide_eq_true_eq, Bool.false_eq_true, true_iff, false_iff]; omega)
theorem impl_ActOk (l : List Int) (hl : l.length ≤ 1048576) (kd at_ a b : Int) : impl_ActOk.f l kd at_ a b = some (okB l kd at_ a b) := by
  unfold impl_ActOk.f okB
  rw [w64 (by omega) (by omega)]
  simp only [within, Option.bind_some, decide_eq_true_eq]
  repeat' split
  all_goals (refine congrArg some ?_; rw [Bool.eq_iff_iff]; simp only [beq_iff_eq, decide_eq_true_eq, Bool.false_eq_true, true_iff, false_iff]; omega)

/-! Do: both come to the same. -/
theorem Do_both (l : List Int) (hl : l.length ≤ 1048576) (kd a x y : Int) : ∃ (r : List Int) (t : Int) (q : Bool), r.length ≤ 1048576 ∧ spec_Do.f l kd a x y = some (r, t, q) ∧ impl_Do.f l kd a x y = some (r, t, q) := by
  have sc : spec_l02Copy.f l = some l := by
    unfold spec_l02Copy.f
    simp only [Option.bind_some]
    rw [if_pos (by rw [List.length_nil]; omega)]; rfl
  have ic : impl_copyMem.f l = some l := by
    unfold impl_copyMem.f impl_copyInts.f
    rw [if_pos (by rw [List.length_nil]; omega)]; rfl
  by_cases hb : okB l kd a x y = true
  · have h := hb
    unfold okB at h
    rw [decide_eq_true_eq] at h
    obtain ⟨k1, k2, a0, a1, _⟩ := h
    have hk : kd = 1 ∨ kd = 2 ∨ kd = 3 ∨ kd = 4 := by omega
    rcases hk with rfl | rfl | rfl | rfl
    · refine ⟨l, rd l a, true, hl, ?_, ?_⟩
      · unfold spec_Do.f
        rw [spec_ActOk, hb]
        simp only [Option.bind_some, if_true]
        rw [sc]
        simp only [Option.bind_some]
        rw [if_pos a0, if_pos a1, if_neg (by omega), if_neg (by omega), if_neg (by omega)]
      · unfold impl_Do.f
        rw [impl_ActOk l hl, hb]
        simp only [Option.bind_some, if_true]
        rw [ic]
        simp only [Option.bind_some]
        rw [if_pos a0, if_pos a1]
    · refine ⟨l.set a.toNat x, 0, true, by rw [List.length_set]; exact hl, ?_, ?_⟩
      · unfold spec_Do.f
        rw [spec_ActOk, hb]
        simp only [Option.bind_some, if_true]
        rw [sc]
        simp only [Option.bind_some]
        rw [if_pos a0, if_pos a1, if_pos a1]
      · unfold impl_Do.f
        rw [impl_ActOk l hl, hb]
        simp only [Option.bind_some, if_true]
        rw [ic]
        simp only [Option.bind_some]
        rw [if_pos a0, if_pos a1, if_neg (by omega), if_pos a1]
    · by_cases hx : rd l a = x
      · refine ⟨l.set a.toNat y, 1, true, by rw [List.length_set]; exact hl, ?_, ?_⟩
        · unfold spec_Do.f
          rw [spec_ActOk, hb]
          simp only [Option.bind_some, if_true]
          rw [sc]
          simp only [Option.bind_some]
          rw [if_pos a0, if_pos a1, if_neg (by omega), if_pos hx, if_pos a1]
        · unfold impl_Do.f
          rw [impl_ActOk l hl, hb]
          simp only [Option.bind_some, if_true]
          rw [ic]
          simp only [Option.bind_some]
          rw [if_pos a0, if_pos a1, if_neg (by omega), if_neg (by omega), if_pos hx, if_pos a1]
      · refine ⟨l, 0, true, hl, ?_, ?_⟩
        · unfold spec_Do.f
          rw [spec_ActOk, hb]
          simp only [Option.bind_some, if_true]
          rw [sc]
          simp only [Option.bind_some]
          rw [if_pos a0, if_pos a1, if_neg (by omega), if_neg hx]
        · unfold impl_Do.f
          rw [impl_ActOk l hl, hb]
          simp only [Option.bind_some, if_true]
          rw [ic]
          simp only [Option.bind_some]
          rw [if_pos a0, if_pos a1, if_neg (by omega), if_neg (by omega), if_neg hx]
    · refine ⟨l.set a.toNat (wrap64 (rd l a + x)), wrap64 (rd l a + x), true, by rw [List.length_set]; exact hl, ?_, ?_⟩
      · unfold spec_Do.f
        rw [spec_ActOk, hb]
        simp only [Option.bind_some, if_true]
        rw [sc]
        simp only [Option.bind_some]
        rw [if_pos a0, if_pos a1, if_neg (by omega), if_neg (by omega), if_pos a1]
      · unfold impl_Do.f
        rw [impl_ActOk l hl, hb]
        simp only [Option.bind_some, if_true]
        rw [ic]
        simp only [Option.bind_some]
        rw [if_pos a0, if_pos a1, if_neg (by omega), if_neg (by omega), if_neg (by omega), if_pos a1]
  · have hb' : okB l kd a x y = false := by simpa using hb
    refine ⟨[], 0, false, by simp, ?_, ?_⟩
    · unfold spec_Do.f
      rw [spec_ActOk, hb']
      simp
    · unfold impl_Do.f
      rw [impl_ActOk l hl, hb']
      simp
theorem rd_le (l : List Int) (B : Int) (hB : 0 ≤ B) (h : ∀ y ∈ l, y ≤ B) (i : Int) : rd l i ≤ B := by
  unfold rd
  rw [List.getD_eq_getElem?_getD]
  cases e : l[i.toNat]? with
  | none => simpa using hB
  | some y => simpa using h y (List.mem_of_getElem? e)
theorem wrap_le (x : Int) : wrap64 x ≤ 9223372036854775807 := by unfold wrap64; omega
/-- What Do tells: a word, and of a CAS 0 or 1. -/
theorem Do_told (l : List Int) (hl : l.length ≤ 1048576) (hw : ∀ y ∈ l, y ≤ 9223372036854775807) (kd a x y : Int) (r : List Int) (t : Int) (q : Bool) (h : impl_Do.f l kd a x y = some (r, t, q)) : t ≤ 9223372036854775807 ∧ (kd = 3 → t = 0 ∨ t = 1) := by
  have ic : impl_copyMem.f l = some l := by
    unfold impl_copyMem.f impl_copyInts.f
    rw [if_pos (by rw [List.length_nil]; omega)]; rfl
  have hr : rd l a ≤ 9223372036854775807 := rd_le l _ (by omega) hw a
  have hz := wrap_le (rd l a + x)
  unfold impl_Do.f at h
  rw [impl_ActOk l hl, ic] at h
  simp only [Option.bind_some] at h
  by_cases c0 : okB l kd a x y = true
  · rw [if_pos c0] at h
    by_cases c1 : 0 ≤ a
    · rw [if_pos c1] at h
      by_cases c2 : a < (l.length : Int)
      · rw [if_pos c2] at h
        by_cases k1 : kd = 1
        · rw [if_pos k1] at h
          injection h with h; injection h with h1 h2; injection h2 with h2 h3
          subst h2; exact ⟨hr, fun z => by omega⟩
        · rw [if_neg k1] at h
          by_cases k2 : kd = 2
          · rw [if_pos k2, if_pos c2] at h
            injection h with h; injection h with h1 h2; injection h2 with h2 h3
            subst h2; exact ⟨by omega, fun z => by omega⟩
          · rw [if_neg k2] at h
            by_cases k3 : kd = 3
            · rw [if_pos k3] at h
              by_cases c3 : rd l a = x
              · rw [if_pos c3, if_pos c2] at h
                injection h with h; injection h with h1 h2; injection h2 with h2 h3
                subst h2; exact ⟨by omega, fun _ => Or.inr rfl⟩
              · rw [if_neg c3] at h
                injection h with h; injection h with h1 h2; injection h2 with h2 h3
                subst h2; exact ⟨by omega, fun _ => Or.inl rfl⟩
            · rw [if_neg k3, if_pos c2] at h
              injection h with h; injection h with h1 h2; injection h2 with h2 h3
              subst h2; exact ⟨hz, fun z => absurd z k3⟩
      · rw [if_neg c2] at h; cases h
    · rw [if_neg c1] at h; cases h
  · rw [if_neg c0] at h
    injection h with h; injection h with h1 h2; injection h2 with h2 h3
    subst h2; exact ⟨by omega, fun _ => Or.inl rfl⟩


theorem LiAct_ok (k : Nat) (n kd a x pc p c w r v : Int) (done : Bool) (hc : c ≤ 9223372036854775807) (hw : w ≤ 9223372036854775807) (q0 q1 q2 q3 : Int) (h : impl_LiAct.f (k + 5) n kd a x pc p c w r v done = some (q0, q1, q2, q3, true)) :
    (1 ≤ n ∧ n ≤ 16) ∧ ((kd = 1 ∧ 0 ≤ pc ∧ pc ≤ 6) ∨ (kd = 2 ∧ (0 ≤ pc ∧ pc ≤ 3 ∨ pc = 7)) ∨ (kd = 3 ∧ 0 ≤ pc ∧ pc ≤ 2)) ∧ (6 ≤ pc → q0 = 3) := by
  cases done with
  | true => simp [impl_LiAct.f, impl_LiAct.j0] at h
  | false =>
    by_cases hn : 1 ≤ n ∧ n ≤ 16
    · rw [LiAct_impl (k + 1) n kd a x pc p c w r v hn hc hw] at h
      split at h
      · rename_i hs
        have hs1 : stepB kd pc = true := by
          cases e : stepB kd pc
          · simp [e] at hs
          · rfl
        have hs2 := hs1
        unfold stepB at hs2
        rw [decide_eq_true_eq] at hs2
        refine ⟨hn, hs2, fun h6 => ?_⟩
        rcases (show pc = 6 ∨ pc = 7 by omega) with rfl | rfl
        · simp [fin] at h; exact h.1.symm
        · simp [fin] at h; exact h.1.symm
      · simp [zro] at h
    · simp [impl_LiAct.f, impl_LiAct.j0, within, hn] at h
section
attribute [local simp] spec_LiStep.j0 spec_LiStep.j1 spec_LiStep.j2 spec_l05First.f spec_l05First.j0 spec_l05Key.f spec_l05Key.j0 spec_l05Key.j1 spec_l05End.f spec_l05Again.f spec_l03End.f spec_l05Node.f impl_LiStep.j0 impl_LiStep.j1 impl_LiStep.j2 impl_LiStep.j3 impl_LiStep.j4 impl_Call_liRead.f impl_Call_liRead.j0 impl_Call_liRead.j1 impl_Call_liRead.j2 impl_isMarked.f impl_Call_again.f impl_Call_end.f impl_linkCell.f
theorem LiKey (n : Int) (hn : 1 ≤ n ∧ n ≤ 16) (l m : List Int) (hm : m.length ≤ 1048576) (t q0 q1 q2 q3 : Int) (ht : t ≤ 9223372036854775807) (hi : impl_Do.f l q0 q1 q2 q3 = some (m, t, true)) (kd a x pc p c w r v : Int) (done : Bool)
    (hk : (kd = 1 ∧ 0 ≤ pc ∧ pc ≤ 6) ∨ (kd = 2 ∧ (0 ≤ pc ∧ pc ≤ 3 ∨ pc = 7)) ∨ (kd = 3 ∧ 0 ≤ pc ∧ pc ≤ 2)) (h01 : 6 ≤ pc → t = 0 ∨ t = 1) :
    ∃ (m2 : List Int) (r1 r2 r3 r4 r5 r6 r7 r8 r9 : Int) (r10 r11 : Bool), m2.length ≤ 1048576 ∧ ∀ k, spec_LiStep.j0 (k + 10) n t false kd a x pc p c w r v done m = some (m2, r1, r2, r3, r4, r5, r6, r7, r8, r9, r10, r11) ∧ impl_LiStep.j0 (k + 10) n false l kd a x pc p c w r v done q0 q1 q2 q3 = some (m2, r1, r2, r3, r4, r5, r6, r7, r8, r9, r10, r11) := by
  have eL := l05Link n t ht
  have eT := l05There n t ht
  have eI := isLink n t hn ht
  have eN : impl_nodeOf.f t = some (nd t) := rfl
  have eNc : impl_nodeOf.f c = some (nd c) := rfl
  have hnd : wrap64 (wrap64 (Int.tdiv c 2) - 1) = nd c := rfl
  have tm : lB n t = true → Int.tmod t 2 = 0 ∨ Int.tmod t 2 = 1 := by
    intro h0
    have h0 := lB_pos n t h0
    rw [Int.tmod_eq_emod_of_nonneg h0]; omega
  have w1 : wrap64 1 = 1 := by decide +kernel
  have w2 : wrap64 2 = 2 := by decide +kernel
  have w3 : wrap64 3 = 3 := by decide +kernel
  have w4 : wrap64 4 = 4 := by decide +kernel
  have w5 : wrap64 5 = 5 := by decide +kernel
  have w6 : wrap64 6 = 6 := by decide +kernel
  have w7 : wrap64 7 = 7 := by decide +kernel
  have w8 : wrap64 8 = 8 := by decide +kernel
  rcases (show kd = 1 ∨ kd = 2 ∨ kd = 3 by omega) with rfl | rfl | rfl
  · rcases (show pc = 0 ∨ pc = 1 ∨ pc = 2 ∨ pc = 3 ∨ pc = 4 ∨ pc = 5 ∨ pc = 6 by omega) with rfl | rfl | rfl | rfl | rfl | rfl | rfl
    · skip
      cases hL : lB n t
      · skip
        refine ⟨[], 0, 0, 0, 0, 0, 0, 0, 0, 0, false, false, by simp, fun k => ⟨?_, ?_⟩⟩
        · simp [eL, eT, w1, w2, w3, w4, w5, w6, w7, w8, hL]
        · simp [hi, eI, eN, eNc, w1, w2, w3, w4, w5, w6, w7, w8, hL]
      · rcases tm hL with hM | hM
        · skip
          by_cases hG : nd t < 0
          · have hG2 : gB t = false := by unfold gB; rw [decide_eq_false (by omega)]
            refine ⟨m, 1, a, x, 4, p, t, w, r, v, done, true, hm, fun k => ⟨?_, ?_⟩⟩
            · simp [eL, eT, w1, w2, w3, w4, w5, w6, w7, w8, hL, hM, hG, hG2]
            · simp [hi, eI, eN, eNc, w1, w2, w3, w4, w5, w6, w7, w8, hL, hM, hG, hG2]
          · have hG2 : gB t = true := by unfold gB; rw [decide_eq_true (by omega)]
            refine ⟨m, 1, a, x, 1, p, t, w, r, v, done, true, hm, fun k => ⟨?_, ?_⟩⟩
            · simp [eL, eT, w1, w2, w3, w4, w5, w6, w7, w8, hL, hM, hG, hG2]
            · simp [hi, eI, eN, eNc, w1, w2, w3, w4, w5, w6, w7, w8, hL, hM, hG, hG2]
        · skip
          refine ⟨m, 1, a, x, 0, 0, t, w, r, v, done, true, hm, fun k => ⟨?_, ?_⟩⟩
          · simp [eL, eT, w1, w2, w3, w4, w5, w6, w7, w8, hL, hM]
          · simp [hi, eI, eN, eNc, w1, w2, w3, w4, w5, w6, w7, w8, hL, hM]
    · skip
      cases hL : lB n t
      · skip
        refine ⟨[], 0, 0, 0, 0, 0, 0, 0, 0, 0, false, false, by simp, fun k => ⟨?_, ?_⟩⟩
        · simp [eL, eT, w1, w2, w3, w4, w5, w6, w7, w8, hL]
        · simp [hi, eI, eN, eNc, w1, w2, w3, w4, w5, w6, w7, w8, hL]
      · rcases tm hL with hM | hM
        · skip
          refine ⟨m, 1, a, x, 2, p, c, t, r, v, done, true, hm, fun k => ⟨?_, ?_⟩⟩
          · simp [eL, eT, w1, w2, w3, w4, w5, w6, w7, w8, hL, hM]
          · simp [hi, eI, eN, eNc, w1, w2, w3, w4, w5, w6, w7, w8, hL, hM]
        · skip
          refine ⟨m, 1, a, x, 3, p, c, t, r, v, done, true, hm, fun k => ⟨?_, ?_⟩⟩
          · simp [eL, eT, w1, w2, w3, w4, w5, w6, w7, w8, hL, hM]
          · simp [hi, eI, eN, eNc, w1, w2, w3, w4, w5, w6, w7, w8, hL, hM]
    · skip
      by_cases hA : t < a
      · skip
        refine ⟨m, 1, a, x, 0, wrap64 (2 + wrap64 (2 * nd c)), c, w, r, t, done, true, hm, fun k => ⟨?_, ?_⟩⟩
        · simp [eL, eT, w1, w2, w3, w4, w5, w6, w7, w8, hA, hnd]
        · simp [hi, eI, eN, eNc, w1, w2, w3, w4, w5, w6, w7, w8, hA, hnd]
      · by_cases hE : t = a
        · subst hE
          have hlt : ¬ t < t := by omega
          refine ⟨m, 1, t, x, 3, p, c, w, 4, t, true, true, hm, fun k => ⟨?_, ?_⟩⟩
          · simp [eL, eT, w1, w2, w3, w4, w5, w6, w7, w8, hlt]
          · simp [hi, eI, eN, eNc, w1, w2, w3, w4, w5, w6, w7, w8, hlt]
        · have hgt : a < t := by omega
          refine ⟨m, 1, a, x, 4, p, c, w, r, t, done, true, hm, fun k => ⟨?_, ?_⟩⟩
          · simp [eL, eT, w1, w2, w3, w4, w5, w6, w7, w8, hA, hE, hgt]
          · simp [hi, eI, eN, eNc, w1, w2, w3, w4, w5, w6, w7, w8, hA, hE, hgt]
    · skip
      by_cases hE : t = 0
      · skip
        refine ⟨m, 1, a, x, 0, 0, c, w, r, v, done, true, hm, fun k => ⟨?_, ?_⟩⟩
        · simp [eL, eT, w1, w2, w3, w4, w5, w6, w7, w8, hE]
        · simp [hi, eI, eN, eNc, w1, w2, w3, w4, w5, w6, w7, w8, hE]
      · skip
        refine ⟨m, 1, a, x, 0, p, c, w, r, v, done, true, hm, fun k => ⟨?_, ?_⟩⟩
        · simp [eL, eT, w1, w2, w3, w4, w5, w6, w7, w8, hE]
        · simp [hi, eI, eN, eNc, w1, w2, w3, w4, w5, w6, w7, w8, hE]
    · skip
      refine ⟨m, 1, a, x, 5, p, c, w, r, v, done, true, hm, fun k => ⟨?_, ?_⟩⟩
      · simp [eL, eT, w1, w2, w3, w4, w5, w6, w7, w8]
      · simp [hi, eI, eN, eNc, w1, w2, w3, w4, w5, w6, w7, w8]
    · skip
      refine ⟨m, 1, a, x, 6, p, c, w, r, v, done, true, hm, fun k => ⟨?_, ?_⟩⟩
      · simp [eL, eT, w1, w2, w3, w4, w5, w6, w7, w8]
      · simp [hi, eI, eN, eNc, w1, w2, w3, w4, w5, w6, w7, w8]
    · skip
      rcases h01 (by omega) with hE | hE
      · skip
        refine ⟨m, 1, a, x, 0, 0, c, w, r, v, done, true, hm, fun k => ⟨?_, ?_⟩⟩
        · simp [eL, eT, w1, w2, w3, w4, w5, w6, w7, w8, hE]
        · simp [hi, eI, eN, eNc, w1, w2, w3, w4, w5, w6, w7, w8, hE]
      · skip
        refine ⟨m, 1, a, x, 7, p, c, w, 1, v, true, true, hm, fun k => ⟨?_, ?_⟩⟩
        · simp [eL, eT, w1, w2, w3, w4, w5, w6, w7, w8, hE]
        · simp [hi, eI, eN, eNc, w1, w2, w3, w4, w5, w6, w7, w8, hE]
  · rcases (show pc = 0 ∨ pc = 1 ∨ pc = 2 ∨ pc = 3 ∨ pc = 7 by omega) with rfl | rfl | rfl | rfl | rfl
    · skip
      cases hL : lB n t
      · skip
        refine ⟨[], 0, 0, 0, 0, 0, 0, 0, 0, 0, false, false, by simp, fun k => ⟨?_, ?_⟩⟩
        · simp [eL, eT, w1, w2, w3, w4, w5, w6, w7, w8, hL]
        · simp [hi, eI, eN, eNc, w1, w2, w3, w4, w5, w6, w7, w8, hL]
      · rcases tm hL with hM | hM
        · skip
          by_cases hG : nd t < 0
          · have hG2 : gB t = false := by unfold gB; rw [decide_eq_false (by omega)]
            refine ⟨m, 2, a, x, 1, p, t, w, 4, v, true, true, hm, fun k => ⟨?_, ?_⟩⟩
            · simp [eL, eT, w1, w2, w3, w4, w5, w6, w7, w8, hL, hM, hG, hG2]
            · simp [hi, eI, eN, eNc, w1, w2, w3, w4, w5, w6, w7, w8, hL, hM, hG, hG2]
          · have hG2 : gB t = true := by unfold gB; rw [decide_eq_true (by omega)]
            refine ⟨m, 2, a, x, 1, p, t, w, r, v, done, true, hm, fun k => ⟨?_, ?_⟩⟩
            · simp [eL, eT, w1, w2, w3, w4, w5, w6, w7, w8, hL, hM, hG, hG2]
            · simp [hi, eI, eN, eNc, w1, w2, w3, w4, w5, w6, w7, w8, hL, hM, hG, hG2]
        · skip
          refine ⟨m, 2, a, x, 0, 0, t, w, r, v, done, true, hm, fun k => ⟨?_, ?_⟩⟩
          · simp [eL, eT, w1, w2, w3, w4, w5, w6, w7, w8, hL, hM]
          · simp [hi, eI, eN, eNc, w1, w2, w3, w4, w5, w6, w7, w8, hL, hM]
    · skip
      cases hL : lB n t
      · skip
        refine ⟨[], 0, 0, 0, 0, 0, 0, 0, 0, 0, false, false, by simp, fun k => ⟨?_, ?_⟩⟩
        · simp [eL, eT, w1, w2, w3, w4, w5, w6, w7, w8, hL]
        · simp [hi, eI, eN, eNc, w1, w2, w3, w4, w5, w6, w7, w8, hL]
      · rcases tm hL with hM | hM
        · skip
          refine ⟨m, 2, a, x, 2, p, c, t, r, v, done, true, hm, fun k => ⟨?_, ?_⟩⟩
          · simp [eL, eT, w1, w2, w3, w4, w5, w6, w7, w8, hL, hM]
          · simp [hi, eI, eN, eNc, w1, w2, w3, w4, w5, w6, w7, w8, hL, hM]
        · skip
          refine ⟨m, 2, a, x, 3, p, c, t, r, v, done, true, hm, fun k => ⟨?_, ?_⟩⟩
          · simp [eL, eT, w1, w2, w3, w4, w5, w6, w7, w8, hL, hM]
          · simp [hi, eI, eN, eNc, w1, w2, w3, w4, w5, w6, w7, w8, hL, hM]
    · skip
      by_cases hA : t < a
      · skip
        refine ⟨m, 2, a, x, 0, wrap64 (2 + wrap64 (2 * nd c)), c, w, r, t, done, true, hm, fun k => ⟨?_, ?_⟩⟩
        · simp [eL, eT, w1, w2, w3, w4, w5, w6, w7, w8, hA, hnd]
        · simp [hi, eI, eN, eNc, w1, w2, w3, w4, w5, w6, w7, w8, hA, hnd]
      · by_cases hE : t = a
        · subst hE
          have hlt : ¬ t < t := by omega
          refine ⟨m, 2, t, x, 7, p, c, w, r, t, done, true, hm, fun k => ⟨?_, ?_⟩⟩
          · simp [eL, eT, w1, w2, w3, w4, w5, w6, w7, w8, hlt]
          · simp [hi, eI, eN, eNc, w1, w2, w3, w4, w5, w6, w7, w8, hlt]
        · have hgt : a < t := by omega
          refine ⟨m, 2, a, x, 3, p, c, w, 4, t, true, true, hm, fun k => ⟨?_, ?_⟩⟩
          · simp [eL, eT, w1, w2, w3, w4, w5, w6, w7, w8, hA, hE, hgt]
          · simp [hi, eI, eN, eNc, w1, w2, w3, w4, w5, w6, w7, w8, hA, hE, hgt]
    · skip
      by_cases hE : t = 0
      · skip
        refine ⟨m, 2, a, x, 0, 0, c, w, r, v, done, true, hm, fun k => ⟨?_, ?_⟩⟩
        · simp [eL, eT, w1, w2, w3, w4, w5, w6, w7, w8, hE]
        · simp [hi, eI, eN, eNc, w1, w2, w3, w4, w5, w6, w7, w8, hE]
      · skip
        refine ⟨m, 2, a, x, 0, p, c, w, r, v, done, true, hm, fun k => ⟨?_, ?_⟩⟩
        · simp [eL, eT, w1, w2, w3, w4, w5, w6, w7, w8, hE]
        · simp [hi, eI, eN, eNc, w1, w2, w3, w4, w5, w6, w7, w8, hE]
    · skip
      rcases h01 (by omega) with hE | hE
      · skip
        refine ⟨m, 2, a, x, 0, 0, c, w, r, v, done, true, hm, fun k => ⟨?_, ?_⟩⟩
        · simp [eL, eT, w1, w2, w3, w4, w5, w6, w7, w8, hE]
        · simp [hi, eI, eN, eNc, w1, w2, w3, w4, w5, w6, w7, w8, hE]
      · skip
        refine ⟨m, 2, a, x, 8, p, c, w, 1, v, true, true, hm, fun k => ⟨?_, ?_⟩⟩
        · simp [eL, eT, w1, w2, w3, w4, w5, w6, w7, w8, hE]
        · simp [hi, eI, eN, eNc, w1, w2, w3, w4, w5, w6, w7, w8, hE]
  · rcases (show pc = 0 ∨ pc = 1 ∨ pc = 2 by omega) with rfl | rfl | rfl
    · skip
      cases hL : lB n t
      · skip
        refine ⟨[], 0, 0, 0, 0, 0, 0, 0, 0, 0, false, false, by simp, fun k => ⟨?_, ?_⟩⟩
        · simp [eL, eT, w1, w2, w3, w4, w5, w6, w7, w8, hL]
        · simp [hi, eI, eN, eNc, w1, w2, w3, w4, w5, w6, w7, w8, hL]
      · rcases tm hL with hM | hM
        · skip
          by_cases hG : nd t < 0
          · have hG2 : gB t = false := by unfold gB; rw [decide_eq_false (by omega)]
            refine ⟨m, 3, a, x, 1, p, t, w, 4, v, true, true, hm, fun k => ⟨?_, ?_⟩⟩
            · simp [eL, eT, w1, w2, w3, w4, w5, w6, w7, w8, hL, hM, hG, hG2]
            · simp [hi, eI, eN, eNc, w1, w2, w3, w4, w5, w6, w7, w8, hL, hM, hG, hG2]
          · have hG2 : gB t = true := by unfold gB; rw [decide_eq_true (by omega)]
            refine ⟨m, 3, a, x, 1, p, t, w, r, v, done, true, hm, fun k => ⟨?_, ?_⟩⟩
            · simp [eL, eT, w1, w2, w3, w4, w5, w6, w7, w8, hL, hM, hG, hG2]
            · simp [hi, eI, eN, eNc, w1, w2, w3, w4, w5, w6, w7, w8, hL, hM, hG, hG2]
        · skip
          by_cases hG : nd t < 0
          · have hG2 : gB t = false := by unfold gB; rw [decide_eq_false (by omega)]
            refine ⟨m, 3, a, x, 1, p, t, w, 4, v, true, true, hm, fun k => ⟨?_, ?_⟩⟩
            · simp [eL, eT, w1, w2, w3, w4, w5, w6, w7, w8, hL, hM, hG, hG2]
            · simp [hi, eI, eN, eNc, w1, w2, w3, w4, w5, w6, w7, w8, hL, hM, hG, hG2]
          · have hG2 : gB t = true := by unfold gB; rw [decide_eq_true (by omega)]
            refine ⟨m, 3, a, x, 1, p, t, w, r, v, done, true, hm, fun k => ⟨?_, ?_⟩⟩
            · simp [eL, eT, w1, w2, w3, w4, w5, w6, w7, w8, hL, hM, hG, hG2]
            · simp [hi, eI, eN, eNc, w1, w2, w3, w4, w5, w6, w7, w8, hL, hM, hG, hG2]
    · skip
      cases hL : lB n t
      · skip
        refine ⟨[], 0, 0, 0, 0, 0, 0, 0, 0, 0, false, false, by simp, fun k => ⟨?_, ?_⟩⟩
        · simp [eL, eT, w1, w2, w3, w4, w5, w6, w7, w8, hL]
        · simp [hi, eI, eN, eNc, w1, w2, w3, w4, w5, w6, w7, w8, hL]
      · rcases tm hL with hM | hM
        · skip
          refine ⟨m, 3, a, x, 2, p, c, t, r, v, done, true, hm, fun k => ⟨?_, ?_⟩⟩
          · simp [eL, eT, w1, w2, w3, w4, w5, w6, w7, w8, hL, hM]
          · simp [hi, eI, eN, eNc, w1, w2, w3, w4, w5, w6, w7, w8, hL, hM]
        · skip
          refine ⟨m, 3, a, x, 2, p, c, t, r, v, done, true, hm, fun k => ⟨?_, ?_⟩⟩
          · simp [eL, eT, w1, w2, w3, w4, w5, w6, w7, w8, hL, hM]
          · simp [hi, eI, eN, eNc, w1, w2, w3, w4, w5, w6, w7, w8, hL, hM]
    · skip
      by_cases hA : t < a
      · skip
        refine ⟨m, 3, a, x, 0, wrap64 (2 + wrap64 (2 * nd c)), c, w, r, t, done, true, hm, fun k => ⟨?_, ?_⟩⟩
        · simp [eL, eT, w1, w2, w3, w4, w5, w6, w7, w8, hA, hnd]
        · simp [hi, eI, eN, eNc, w1, w2, w3, w4, w5, w6, w7, w8, hA, hnd]
      · by_cases hE : t = a
        · subst hE
          have hlt : ¬ t < t := by omega
          by_cases hW : Int.tmod w 2 = 0
          · skip
            refine ⟨m, 3, t, x, 3, p, c, w, 1, t, true, true, hm, fun k => ⟨?_, ?_⟩⟩
            · simp [eL, eT, w1, w2, w3, w4, w5, w6, w7, w8, hlt, hW]
            · simp [hi, eI, eN, eNc, w1, w2, w3, w4, w5, w6, w7, w8, hlt, hW]
          · skip
            refine ⟨m, 3, t, x, 3, p, c, w, 4, t, true, true, hm, fun k => ⟨?_, ?_⟩⟩
            · simp [eL, eT, w1, w2, w3, w4, w5, w6, w7, w8, hlt, hW]
            · simp [hi, eI, eN, eNc, w1, w2, w3, w4, w5, w6, w7, w8, hlt, hW]
        · have hgt : a < t := by omega
          refine ⟨m, 3, a, x, 3, p, c, w, 4, t, true, true, hm, fun k => ⟨?_, ?_⟩⟩
          · simp [eL, eT, w1, w2, w3, w4, w5, w6, w7, w8, hA, hE, hgt]
          · simp [hi, eI, eN, eNc, w1, w2, w3, w4, w5, w6, w7, w8, hA, hE, hgt]
end
theorem eqCall_refl (a b c d e f g h i : Int) (j : Bool) : laws_eqCall.f a b c d e f g h i j a b c d e f g h i j = some true := by
  simp [laws_eqCall.f]
theorem LiStep_both (n : Int) (l : List Int) (hl : l.length ≤ 1048576) (hlw : ∀ y ∈ l, y ≤ 9223372036854775807) (kd a x pc p c w r v : Int) (done : Bool) (hc : c ≤ 9223372036854775807) (hw : w ≤ 9223372036854775807) :
    ∃ (m2 : List Int) (r1 r2 r3 r4 r5 r6 r7 r8 r9 : Int) (r10 r11 : Bool), m2.length ≤ 1048576 ∧ ∀ k, 30 ≤ k → spec_LiStep.f k n l kd a x pc p c w r v done = some (m2, r1, r2, r3, r4, r5, r6, r7, r8, r9, r10, r11) ∧ impl_LiStep.f k n l kd a x pc p c w r v done = some (m2, r1, r2, r3, r4, r5, r6, r7, r8, r9, r10, r11) := by
  obtain ⟨q0, q1, q2, q3, q4, h1, h2⟩ := LiAct_both 0 n kd a x pc p c w r v done hc hw
  have s1 : ∀ k, 5 ≤ k → spec_LiAct.f k n kd a x pc p c w r v done = some (q0, q1, q2, q3, q4) := fun k hk => at_rounds (g := fun k => spec_LiAct.f k n kd a x pc p c w r v done) (fun k => spec_LiAct.mono n kd a x pc p c w r v done k) hk h1
  have i1 : ∀ k, 5 ≤ k → impl_LiAct.f k n kd a x pc p c w r v done = some (q0, q1, q2, q3, q4) := fun k hk => at_rounds (g := fun k => impl_LiAct.f k n kd a x pc p c w r v done) (fun k => impl_LiAct.mono n kd a x pc p c w r v done k) hk h2
  obtain ⟨m, t, q, hm, hs, hi⟩ := Do_both l hl q0 q1 q2 q3
  by_cases ok : q4 = true
  · subst ok
    obtain ⟨hn, hkd, h6⟩ := LiAct_ok 0 n kd a x pc p c w r v done hc hw q0 q1 q2 q3 h2
    obtain ⟨ht, ht3⟩ := Do_told l hl hlw q0 q1 q2 q3 m t q hi
    by_cases hlen : (l.length : Int) = wrap64 (1 + wrap64 (2 * n))
    · have hb : ((l.length : Int) != wrap64 (1 + wrap64 (2 * n))) = false := by simp [hlen]
      by_cases hq : q = true
      · subst hq
        obtain ⟨m2, r1, r2, r3, r4, r5, r6, r7, r8, r9, r10, r11, hm2, hk⟩ := LiKey n hn l m hm t q0 q1 q2 q3 ht hi kd a x pc p c w r v done hkd (fun h => ht3 (h6 h))
        refine ⟨m2, r1, r2, r3, r4, r5, r6, r7, r8, r9, r10, r11, hm2, fun k hk30 => ?_⟩
        obtain ⟨k, rfl⟩ : ∃ e, k = e + 10 := ⟨k - 10, by omega⟩
        unfold spec_LiStep.f impl_LiStep.f
        rw [s1 _ (by omega), i1 _ (by omega)]
        simp only [Option.bind_some, hs, if_true, hb]
        exact hk k
      · obtain rfl : q = false := by simpa using hq
        refine ⟨[], 0, 0, 0, 0, 0, 0, 0, 0, 0, false, false, by simp, fun k hk => ?_⟩
        obtain ⟨k, rfl⟩ : ∃ e, k = e + 10 := ⟨k - 10, by omega⟩
        unfold spec_LiStep.f impl_LiStep.f
        rw [s1 _ (by omega), i1 _ (by omega)]
        simp only [Option.bind_some, hs, hi, hb, if_true, if_false, Bool.false_eq_true, spec_LiStep.j0, impl_LiStep.j0, impl_LiStep.j1, ite_self, and_self]
    · have hb : ((l.length : Int) != wrap64 (1 + wrap64 (2 * n))) = true := by simp [hlen]
      refine ⟨[], 0, 0, 0, 0, 0, 0, 0, 0, 0, false, false, by simp, fun k hk => ?_⟩
      obtain ⟨k, rfl⟩ : ∃ e, k = e + 10 := ⟨k - 10, by omega⟩
      unfold spec_LiStep.f impl_LiStep.f
      rw [s1 _ (by omega), i1 _ (by omega)]
      simp only [Option.bind_some, hs, if_true, hb, spec_LiStep.j0, impl_LiStep.j0, ite_self, and_self]
  · obtain rfl : q4 = false := by simpa using ok
    refine ⟨[], 0, 0, 0, 0, 0, 0, 0, 0, 0, false, false, by simp, fun k hk => ?_⟩
    obtain ⟨k, rfl⟩ : ∃ e, k = e + 10 := ⟨k - 10, by omega⟩
    unfold spec_LiStep.f impl_LiStep.f
    rw [s1 _ (by omega), i1 _ (by omega)]
    simp only [Option.bind_some, hs, if_true, if_false, Bool.false_eq_true, spec_LiStep.j0, impl_LiStep.j0, ite_self, and_self]
theorem FnExactLiStep : laws_FnExactLiStep.Pure := by
  intro n l kd a x pc p c w r v done _ ⟨hm, hB⟩ ⟨_, _, _, _, _, hc, hw, _⟩
  by_cases hl : l.length ≤ 1048576
  · obtain ⟨m, r1, r2, r3, r4, r5, r6, r7, r8, r9, r10, r11, hml, hk⟩ := LiStep_both n l hl (fun y hy => (i64r (hB y hy)).2) kd a x pc p c w r v done (i64r hc).2 (i64r hw).2
    obtain ⟨K, hK⟩ : ∃ K : Nat, 1048600 ≤ K := ⟨1048600, Nat.le_refl _⟩
    refine Or.inr ⟨K, 1048576 - (l.length : Int), m, marked 1 m.length, marked 1 l.length, r1, r2, r3, r4, r5, r6, r7, r8, r9, r10, r11, 1 + (m.length : Int), 1 + (l.length : Int), szMem_small l hl, by omega, toMem K l hl (by omega), (hk K (by omega)).1, (hk K (by omega)).2, eqMem K m hml (by omega), eqMem K l hl (by omega), eqCall_refl _ _ _ _ _ _ _ _ _ _, markMem K l hl (by omega), by omega, markMem K m hml (by omega), heldMem K m.length hml (by omega), by omega⟩
  · exact Or.inl ⟨-1, szMem_big l hm (by omega), by omega⟩

end Go.Proofs.Ytjikobdblohphaa.Pure
