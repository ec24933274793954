/- The law FnExactRingGood answers true whatever its arguments hold: the program's function and the reference's come to the same, and no list of an answer is shared. No condition. -/
import Derived.Test.YtgghglocfdcegaaPFnExactRingGoodx4
import Derived.Test.YtgghglocfdcegaaStabP
namespace Go.Proofs.Ytgghglocfdcegaa.Pure
open Go.RowKit Go.Proofs.Ytgghglocfdcegaa.PFnExactRingGood Go.Proofs.YtgghglocfdcegaaW.PrintWords Go.Proofs.YtgghglocfdcegaaW.PrintLast
set_option linter.unusedSimpArgs false
set_option linter.unusedVariables false

/-! Small facts. -/
theorem w64 {x : Int} (h0 : -9223372036854775808 ≤ x) (h1 : x ≤ 9223372036854775807) : wrap64 x = x := by unfold wrap64; omega
theorem rd_nat (l : List Int) (j : Nat) : rd l (j : Int) = l.getD j 0 := by simp [rd]
/-- The numbers from m on, n of them. -/
def marked (m : Int) (n : Nat) : List Int := (List.range n).map fun (i : Nat) => m + (i : Int)
theorem marked_len (m : Int) (n : Nat) : (marked m n).length = n := by simp [marked]
theorem marked_get (m : Int) (n j : Nat) (h : j < n) : (marked m n).getD j 0 = m + j := by simp [marked, List.getD, h]
theorem neg1 (n : Nat) : ((1 : Int) + (n : Int) < 0) = False := by simp only [eq_iff_iff, iff_false]; omega
theorem neg0 : ((-1 : Int) < 0) = True := by simp
theorem i64r {n : Int} (h : (Lit.int .i64 n).wf = true) : -9223372036854775808 ≤ n ∧ n ≤ 9223372036854775807 := by
  have e1 : IntKind.i64.min = -9223372036854775808 := by decide
  have e2 : IntKind.i64.max = 9223372036854775807 := by decide
  simp only [Lit.wf, Bool.and_eq_true, decide_eq_true_eq, e1, e2] at h
  exact h

/-! Lists of numbers: copied, compared, marked, held. -/
theorem toIntS_go (x0 : List Int) (hx : x0.length ≤ 140737488355328) (d : Nat) : ∀ (k j : Nat) (x3 : List Int), x3.length = x0.length → x0.length - j = d → j ≤ x0.length → d < k → (∀ i, i < j → x3[i]? = x0[i]?) → laws_toIntS.l0 k x0 x3 (j : Int) = some x0 := by
  induction d with
  | zero =>
    intro k j x3 hl hd hj hk he
    obtain ⟨k, rfl⟩ : ∃ m, k = m + 1 := ⟨k - 1, by omega⟩
    simp only [laws_toIntS.l0]
    rw [if_neg (by omega)]
    refine congrArg some (List.ext_getElem? fun i => ?_)
    by_cases hi : i < j
    · exact he i hi
    · rw [List.getElem?_eq_none (by omega), List.getElem?_eq_none (by omega)]
  | succ d ih =>
    intro k j x3 hl hd hj hk he
    obtain ⟨k, rfl⟩ : ∃ m, k = m + 1 := ⟨k - 1, by omega⟩
    simp only [laws_toIntS.l0]
    rw [if_pos (by omega), if_pos (by omega), if_pos (by omega), w64 (by omega) (by omega)]
    refine ih k (j + 1) _ (by simpa using hl) (by omega) (by omega) (by omega) ?_
    intro i hi
    rw [rd_nat, Int.toNat_natCast, List.getElem?_set]
    by_cases hij : j = i
    · subst hij
      rw [if_pos rfl, if_pos (by omega), List.getElem?_eq_getElem (by omega)]
      simp [List.getD, List.getElem?_eq_getElem (show j < x0.length by omega)]
    · rw [if_neg hij]
      exact he i (by omega)
theorem toIntS (k : Nat) (l : List Int) (hl : l.length ≤ 1048576) (hk : l.length < k) : laws_toIntS.f k l = some l := by
  unfold laws_toIntS.f
  rw [if_pos (by omega), if_pos (by omega)]
  exact toIntS_go l (by omega) l.length k 0 _ (by simp) (by omega) (by omega) (by omega) (fun i hi => absurd hi (by omega))
theorem eqIntS_go (x : List Int) (hx : x.length ≤ 140737488355328) (d : Nat) : ∀ (k j : Nat), x.length - j = d → j ≤ x.length → d < k → laws_eqIntS.l0 k x x (j : Int) = some true := by
  induction d with
  | zero =>
    intro k j hd hj hk
    obtain ⟨k, rfl⟩ : ∃ m, k = m + 1 := ⟨k - 1, by omega⟩
    simp only [laws_eqIntS.l0]
    rw [if_neg (by omega)]
  | succ d ih =>
    intro k j hd hj hk
    obtain ⟨k, rfl⟩ : ∃ m, k = m + 1 := ⟨k - 1, by omega⟩
    simp only [laws_eqIntS.l0]
    rw [if_pos (by omega), if_pos (by omega), if_pos (by omega), if_pos trivial, w64 (by omega) (by omega)]
    exact ih k (j + 1) (by omega) (by omega) (by omega)
theorem eqIntS (k : Nat) (l : List Int) (hl : l.length ≤ 140737488355328) (hk : l.length < k) : laws_eqIntS.f k l l = some true := by
  unfold laws_eqIntS.f
  rw [if_pos rfl]
  exact eqIntS_go l hl l.length k 0 (by omega) (by omega) hk

/-! The rows of facts. -/
theorem rdT89_nat (l : List S89) (j : Nat) : rd_T89 l (j : Int) = l.getD j z89 := by simp [rd_T89]
theorem rd89_set (l : List S89) (j : Nat) (h : j < l.length) (v : S89) : rd_T89 (l.set ((j : Int)).toNat v) (j : Int) = v := by
  rw [rdT89_nat, Int.toNat_natCast, List.getD_eq_getElem?_getD, List.getElem?_set_self h]; rfl
theorem bind_to {α β : Type} {a : α} (b : α) {f : α → Option β} (h : a = b) : (some a).bind f = f b := by rw [h]; rfl
theorem eqFactS_go (x : List S89) (hx : x.length ≤ 1099511627776) (d : Nat) : ∀ (k j : Nat), x.length - j = d → j ≤ x.length → d < k → laws_eqFactS.l0 k x x (j : Int) = some true := by
  induction d with
  | zero =>
    intro k j hd hj hk
    obtain ⟨k, rfl⟩ : ∃ e, k = e + 1 := ⟨k - 1, by omega⟩
    simp only [laws_eqFactS.l0]
    rw [if_neg (by omega)]
  | succ d ih =>
    intro k j hd hj hk
    obtain ⟨k, rfl⟩ : ∃ e, k = e + 1 := ⟨k - 1, by omega⟩
    simp only [laws_eqFactS.l0, laws_eqFact.f]
    rw [if_pos (by omega), if_pos (by omega), if_pos (by omega)]
    simp only [if_true, Option.bind_some]
    rw [w64 (by omega) (by omega), show (j : Int) + 1 = ((j + 1 : Nat) : Int) by omega]
    exact ih k (j + 1) (by omega) (by omega) (by omega)
theorem eqFactS (k : Nat) (l : List S89) (hl : l.length ≤ 1099511627776) (hk : l.length < k) : laws_eqFactS.f k l l = some true := by
  unfold laws_eqFactS.f
  rw [if_pos rfl]
  exact eqFactS_go l hl l.length k 0 (by omega) (by omega) hk

def cv (x : S92) : S89 := ⟨x.f0, x.f1, x.f2, x.f3, x.f4, x.f5, x.f6, x.f7⟩
theorem rdT92_nat (l : List S92) (j : Nat) : rd_T92 l (j : Int) = l.getD j z92 := by simp [rd_T92]
theorem toFactS_go (x0 : List S92) (hx : x0.length ≤ 1048576) (d : Nat) : ∀ (k j : Nat) (x3 : List S89), x3.length = x0.length → x0.length - j = d → j ≤ x0.length → d < k → (∀ i, i < j → x3[i]? = (x0.map cv)[i]?) → laws_toFactS.l0 k x0 x3 (j : Int) = some (x0.map cv) := by
  induction d with
  | zero =>
    intro k j x3 hl hd hj hk he
    obtain ⟨k, rfl⟩ : ∃ m, k = m + 1 := ⟨k - 1, by omega⟩
    simp only [laws_toFactS.l0]
    rw [if_neg (by omega)]
    refine congrArg some (List.ext_getElem? fun i => ?_)
    by_cases hi : i < j
    · exact he i hi
    · rw [List.getElem?_eq_none (by omega), List.getElem?_eq_none (by simp; omega)]
  | succ d ih =>
    intro k j x3 hl hd hj hk he
    obtain ⟨k, rfl⟩ : ∃ m, k = m + 1 := ⟨k - 1, by omega⟩
    simp only [laws_toFactS.l0]
    rw [if_pos (by omega), if_pos (by omega)]
    simp only [laws_toFact.f, Option.bind_some]
    rw [if_pos (by omega), w64 (by omega) (by omega), show (j : Int) + 1 = ((j + 1 : Nat) : Int) by omega]
    refine ih k (j + 1) _ (by simpa using hl) (by omega) (by omega) (by omega) ?_
    intro i hi
    rw [rdT92_nat, Int.toNat_natCast, List.getElem?_set]
    by_cases hij : j = i
    · subst hij
      rw [if_pos rfl, if_pos (by omega), List.getElem?_map, List.getElem?_eq_getElem (by omega)]
      simp [List.getD, List.getElem?_eq_getElem (show j < x0.length by omega), cv]
    · rw [if_neg hij]
      exact he i (by omega)
theorem toFactS (k : Nat) (l : List S92) (hl : l.length ≤ 1048576) (hk : l.length < k) : laws_toFactS.f k l = some (l.map cv) := by
  unfold laws_toFactS.f
  rw [if_pos (by omega), if_pos (by omega)]
  exact toFactS_go l hl l.length k 0 _ (by simp) (by omega) (by omega) (by omega) (fun i hi => absurd hi (by omega))

/-! RingGood. -/
open Go.Proofs.Ytgghglocfdcegaa.Stab (Srt Same)
def kT (x : S89) : Int := x.f5
theorem get_drop89 (l : List S89) (j : Nat) (h : j < l.length) : l.drop j = l.getD j z89 :: l.drop (j + 1) := by
  rw [List.drop_eq_getElem_cons h]
  simp [List.getD, List.getElem?_eq_getElem h]
/-- The facts of a kind that came to pass. -/
def FF (l : List S89) (c : Int) : List S89 := l.filter fun x => decide (x.f1 = c ∧ x.f3 = 1)
def GG (l : List S89) (c t : Int) : List S89 := (FF l c).filter fun x => decide (kT x = t)
def lastD (e : S89) (l : List S89) : S89 := l.foldl (fun _ x => x) e
def flds (x : S89) (n : Int) : Int × Int × Int × Int × Int × Int × Int × Int × Int := (x.f0, x.f1, x.f2, x.f3, x.f4, x.f5, x.f6, x.f7, n)
theorem FF_cons (x : S89) (l : List S89) (c : Int) : FF (x :: l) c = if x.f1 = c ∧ x.f3 = 1 then x :: FF l c else FF l c := by
  unfold FF
  by_cases h : x.f1 = c ∧ x.f3 = 1
  · rw [if_pos h, List.filter_cons_of_pos (by simpa using h)]
  · rw [if_neg h, List.filter_cons_of_neg (by simpa using h)]
theorem GG_cons (x : S89) (l : List S89) (c t : Int) : GG (x :: l) c t = if x.f1 = c ∧ x.f3 = 1 ∧ x.f5 = t then x :: GG l c t else GG l c t := by
  unfold GG
  rw [FF_cons]
  by_cases h : x.f1 = c ∧ x.f3 = 1
  · rw [if_pos h]
    by_cases h2 : x.f5 = t
    · rw [if_pos ⟨h.1, h.2, h2⟩, List.filter_cons_of_pos (p := fun x => decide (kT x = t)) (decide_eq_true (show kT x = t from h2))]
    · rw [if_neg (fun g => h2 g.2.2), List.filter_cons_of_neg (by simp [kT, h2])]
  · rw [if_neg h, if_neg (fun g => h ⟨g.1, g.2.1⟩)]
theorem FF_le (l : List S89) (c : Int) : (FF l c).length ≤ l.length := List.length_filter_le _ _
theorem GG_le (l : List S89) (c t : Int) : (GG l c t).length ≤ l.length := Nat.le_trans (List.length_filter_le _ _) (FF_le l c)
theorem Turn_go (l : List S89) (hl : l.length ≤ 1048576) (c t : Int) (d : Nat) : ∀ (k j cnt : Nat) (e : S89), l.length - j = d → j ≤ l.length → d < k → cnt + d ≤ 1048576 →
    spec_l08Turn.l0 k c t (cnt : Int) l (l.length : Int) (j : Int) e.f0 e.f1 e.f2 e.f3 e.f4 e.f5 e.f6 e.f7 = some (flds (lastD e (GG (l.drop j) c t)) ((cnt + (GG (l.drop j) c t).length : Nat) : Int)) := by
  induction d with
  | zero =>
    intro k j cnt e hd hj hk hc
    obtain ⟨k, rfl⟩ : ∃ m, k = m + 1 := ⟨k - 1, by omega⟩
    simp only [spec_l08Turn.l0]
    have hn : l.drop j = [] := List.drop_eq_nil_of_le (by omega)
    rw [if_neg (by omega), hn]
    rfl
  | succ d ih =>
    intro k j cnt e hd hj hk hc
    obtain ⟨k, rfl⟩ : ∃ m, k = m + 1 := ⟨k - 1, by omega⟩
    simp only [spec_l08Turn.l0]
    rw [if_pos (by omega), if_pos (by omega), if_pos (by omega), rdT89_nat, w64 (x := (j : Int) + 1) (by omega) (by omega), w64 (x := (cnt : Int) + 1) (by omega) (by omega), show (j : Int) + 1 = ((j + 1 : Nat) : Int) by omega, show (cnt : Int) + 1 = ((cnt + 1 : Nat) : Int) by omega, get_drop89 l j (by omega), GG_cons]
    generalize l.getD j z89 = x
    have i1 := ih k (j + 1) (cnt + 1) x (by omega) (by omega) (by omega) (by omega)
    have i2 := ih k (j + 1) cnt e (by omega) (by omega) (by omega) (by omega)
    by_cases h1 : x.f1 = c
    · rw [if_pos h1]
      by_cases h2 : x.f3 = 1
      · rw [if_pos h2]
        by_cases h3 : x.f5 = t
        · rw [if_pos h3, if_pos ⟨h1, h2, h3⟩, i1, List.length_cons, show cnt + 1 + (GG (l.drop (j + 1)) c t).length = cnt + ((GG (l.drop (j + 1)) c t).length + 1) by omega]
          rfl
        · rw [if_neg h3, if_neg (fun g => h3 g.2.2), i2]
      · rw [if_neg h2, if_neg (fun g => h2 g.2.1), i2]
    · rw [if_neg h1, if_neg (fun g => h1 g.1), i2]
theorem Turn (l : List S89) (hl : l.length ≤ 1048576) (c t : Int) (k : Nat) (hk : 1048577 ≤ k) : spec_l08Turn.f k l c t = some (flds (lastD z89 (GG l c t)) ((GG l c t).length : Int)) := by
  have := Turn_go l hl c t l.length k 0 0 z89 (by omega) (Nat.zero_le _) (by omega) (by omega)
  rw [List.drop_zero, Nat.zero_add] at this
  exact this
/-- Turn by turn: one each. -/
def Ones (l : List S89) (c : Int) : Prop := ∀ t : Nat, t < (FF l c).length → (GG l c (t : Int)).length = 1
instance (l : List S89) (c : Int) : Decidable (Ones l c) := Nat.decidableBallLT _ _
theorem Turns_l1 (l : List S89) (hl : l.length ≤ 1048576) (c : Int) (d : Nat) : ∀ (k j : Nat), (FF l c).length - j = d → j ≤ (FF l c).length → d + 1048577 < k → (∀ t, t < j → (GG l c (t : Int)).length = 1) →
    spec_l08Turns.l1 k l c ((FF l c).length : Int) (j : Int) = some (if Ones l c then ((FF l c).length : Int) else -1) := by
  have hF := FF_le l c
  induction d with
  | zero =>
    intro k j hd hj hk ho
    obtain ⟨k, rfl⟩ : ∃ m, k = m + 1 := ⟨k - 1, by omega⟩
    simp only [spec_l08Turns.l1]
    rw [if_neg (by omega), if_pos (show Ones l c from fun t ht => ho t (by omega))]
  | succ d ih =>
    intro k j hd hj hk ho
    obtain ⟨k, rfl⟩ : ∃ m, k = m + 1 := ⟨k - 1, by omega⟩
    simp only [spec_l08Turns.l1]
    rw [if_pos (by omega), Turn l hl c (j : Int) k (by omega), Option.bind_some]
    show (if ((GG l c (j : Int)).length : Int) = 1 then spec_l08Turns.l1 k l c ((FF l c).length : Int) (wrap64 ((j : Int) + 1)) else some (-1)) = _
    by_cases h : (GG l c (j : Int)).length = 1
    · rw [if_pos (show ((GG l c (j : Int)).length : Int) = 1 by omega), w64 (by omega) (by omega), show (j : Int) + 1 = ((j + 1 : Nat) : Int) by omega]
      exact ih k (j + 1) (by omega) (by omega) (by omega) (fun t ht => by
        by_cases e : t = j
        · subst e; exact h
        · exact ho t (by omega))
    · rw [if_neg (show ¬ ((GG l c (j : Int)).length : Int) = 1 by omega), if_neg (show ¬ Ones l c from fun g => h (g j (by omega)))]
theorem Turns_l0 (l : List S89) (hl : l.length ≤ 1048576) (c : Int) (d : Nat) : ∀ (k j cnt : Nat), l.length - j = d → j ≤ l.length → d + 2097155 < k → cnt + (FF (l.drop j) c).length = (FF l c).length → cnt + d ≤ 1048576 →
    spec_l08Turns.l0 k l c (cnt : Int) l (l.length : Int) (j : Int) = some (if Ones l c then ((FF l c).length : Int) else -1) := by
  have hF := FF_le l c
  induction d with
  | zero =>
    intro k j cnt hd hj hk hc hb
    obtain ⟨k, rfl⟩ : ∃ m, k = m + 1 := ⟨k - 1, by omega⟩
    simp only [spec_l08Turns.l0]
    have hn : l.drop j = [] := List.drop_eq_nil_of_le (by omega)
    rw [hn] at hc
    have hc' : cnt = (FF l c).length := by simpa [FF] using hc
    rw [if_neg (by omega), hc']
    exact Turns_l1 l hl c (FF l c).length k 0 (by omega) (Nat.zero_le _) (by omega) (fun t ht => by omega)
  | succ d ih =>
    intro k j cnt hd hj hk hc hb
    obtain ⟨k, rfl⟩ : ∃ m, k = m + 1 := ⟨k - 1, by omega⟩
    simp only [spec_l08Turns.l0]
    rw [get_drop89 l j (by omega), FF_cons] at hc
    rw [if_pos (by omega), if_pos (by omega), if_pos (by omega), rdT89_nat, w64 (x := (j : Int) + 1) (by omega) (by omega), w64 (x := (cnt : Int) + 1) (by omega) (by omega), show (j : Int) + 1 = ((j + 1 : Nat) : Int) by omega, show (cnt : Int) + 1 = ((cnt + 1 : Nat) : Int) by omega]
    generalize l.getD j z89 = x at hc
    by_cases h1 : x.f1 = c
    · rw [if_pos h1]
      by_cases h2 : x.f3 = 1
      · rw [if_pos ⟨h1, h2⟩, List.length_cons] at hc
        rw [if_pos h2]
        exact ih k (j + 1) (cnt + 1) (by omega) (by omega) (by omega) (by omega) (by omega)
      · rw [if_neg (fun g => h2 g.2)] at hc
        rw [if_neg h2]
        exact ih k (j + 1) cnt (by omega) (by omega) (by omega) hc (by omega)
    · rw [if_neg (fun g => h1 g.1)] at hc
      rw [if_neg h1]
      exact ih k (j + 1) cnt (by omega) (by omega) (by omega) hc (by omega)
theorem Turns (l : List S89) (hl : l.length ≤ 1048576) (c : Int) (k : Nat) (hk : 4000000 ≤ k) : spec_l08Turns.f k l c = some (if Ones l c then ((FF l c).length : Int) else -1) := by
  unfold spec_l08Turns.f
  exact Turns_l0 l hl c l.length k 0 0 (by omega) (Nat.zero_le _) (by omega) (by rw [List.drop_zero, Nat.zero_add]) (by omega)
/-! the program's -/
def Rises (S : List S89) : Prop := ∀ i : Nat, i < S.length → (S.getD i z89).f5 = (i : Int)
instance (S : List S89) : Decidable (Rises S) := Nat.decidableBallLT _ _
theorem turns_l1 (S : List S89) (hS : S.length ≤ 1048576) (d : Nat) : ∀ (k j : Nat), S.length - j = d → j ≤ S.length → d < k → (∀ i, i < j → (S.getD i z89).f5 = (i : Int)) →
    impl_turns.l1 k S S (S.length : Int) (j : Int) = some (if Rises S then (S, true) else ([], false)) := by
  induction d with
  | zero =>
    intro k j hd hj hk ho
    obtain ⟨k, rfl⟩ : ∃ m, k = m + 1 := ⟨k - 1, by omega⟩
    simp only [impl_turns.l1]
    rw [if_neg (by omega), if_pos (show Rises S from fun t ht => ho t (by omega))]
  | succ d ih =>
    intro k j hd hj hk ho
    obtain ⟨k, rfl⟩ : ∃ m, k = m + 1 := ⟨k - 1, by omega⟩
    simp only [impl_turns.l1]
    rw [if_pos (by omega), if_pos (by omega), if_pos (by omega), rdT89_nat]
    by_cases h : (S.getD j z89).f5 = (j : Int)
    · rw [if_pos h, w64 (by omega) (by omega), show (j : Int) + 1 = ((j + 1 : Nat) : Int) by omega]
      exact ih k (j + 1) (by omega) (by omega) (by omega) (fun t ht => by
        by_cases e : t = j
        · subst e; exact h
        · exact ho t (by omega))
    · rw [if_neg h, if_neg (show ¬ Rises S from fun g => h (g j (by omega)))]
theorem ltT (x y : S89) : ltOf cmpTurn x y = decide (kT x < kT y) := by
  unfold ltOf cmpTurn kT
  by_cases g : x.f5 < y.f5
  · rw [if_pos g]; simp [g]
  · rw [if_neg g]
    by_cases g2 : y.f5 < x.f5
    · rw [if_pos g2]; simp [g]
    · rw [if_neg g2]; simp [g]
theorem srt_len (l : List S89) : (srtT l).length = l.length := by
  unfold srtT Stab.stab
  have := (Stab.stab_done kT (ltOf cmpTurn) ltT l.toArray).2.length kT
  simpa [Stab.stab] using this
theorem turns_l0 (l : List S89) (hl : l.length ≤ 1048576) (c : Int) (d : Nat) : ∀ (k j : Nat) (out : List S89), l.length - j = d → j ≤ l.length → d + 1048577 < k → out ++ FF (l.drop j) c = FF l c →
    impl_turns.l0 k c out l (l.length : Int) (j : Int) = some (if Rises (srtT (FF l c)) then (srtT (FF l c), true) else ([], false)) := by
  have hF := FF_le l c
  have hS : (srtT (FF l c)).length = (FF l c).length := srt_len _
  induction d with
  | zero =>
    intro k j out hd hj hk hc
    obtain ⟨k, rfl⟩ : ∃ m, k = m + 1 := ⟨k - 1, by omega⟩
    simp only [impl_turns.l0]
    have hn : l.drop j = [] := List.drop_eq_nil_of_le (by omega)
    rw [hn] at hc
    have hc' : out = FF l c := by simpa [FF] using hc
    rw [if_neg (by omega), hc', if_pos (by omega)]
    exact turns_l1 (srtT (FF l c)) (by omega) (srtT (FF l c)).length k 0 (by omega) (Nat.zero_le _) (by omega) (fun t ht => by omega)
  | succ d ih =>
    intro k j out hd hj hk hc
    obtain ⟨k, rfl⟩ : ∃ m, k = m + 1 := ⟨k - 1, by omega⟩
    have hol : out.length ≤ 1048576 := by
      have := congrArg List.length hc
      rw [List.length_append] at this
      omega
    simp only [impl_turns.l0]
    rw [get_drop89 l j (by omega), FF_cons] at hc
    rw [if_pos (by omega), if_pos (by omega), if_pos (by omega), rdT89_nat, w64 (x := (j : Int) + 1) (by omega) (by omega), show (j : Int) + 1 = ((j + 1 : Nat) : Int) by omega]
    generalize l.getD j z89 = x at hc ⊢
    by_cases h1 : x.f1 = c
    · rw [if_pos h1]
      by_cases h2 : x.f3 = 1
      · rw [if_pos ⟨h1, h2⟩] at hc
        rw [if_pos h2, if_pos (by omega)]
        exact ih k (j + 1) (out ++ [x]) (by omega) (by omega) (by omega) (by rw [List.append_assoc, List.singleton_append]; exact hc)
      · rw [if_neg (fun g => h2 g.2)] at hc
        rw [if_neg h2]
        exact ih k (j + 1) out (by omega) (by omega) (by omega) hc
    · rw [if_neg (fun g => h1 g.1)] at hc
      rw [if_neg h1]
      exact ih k (j + 1) out (by omega) (by omega) (by omega) hc
theorem turns (l : List S89) (hl : l.length ≤ 1048576) (c : Int) (k : Nat) (hk : 4000000 ≤ k) : impl_turns.f k l c = some (if Rises (srtT (FF l c)) then (srtT (FF l c), true) else ([], false)) := by
  unfold impl_turns.f
  exact turns_l0 l hl c l.length k 0 [] (by omega) (Nat.zero_le _) (by omega) (by rw [List.drop_zero, List.nil_append])
/-! by turns: one each, or sorted they rise -/
theorem none_of (S : List S89) (m t : Int) (h : ∀ i : Nat, i < S.length → (S.getD i z89).f5 = m + (i : Int)) (ht : t < m) : S.filter (fun x => decide (kT x = t)) = [] := by
  refine List.filter_eq_nil_iff.2 fun y hy => ?_
  obtain ⟨i, hi, rfl⟩ := List.mem_iff_getElem.1 hy
  have := h i hi
  simp only [List.getD, List.getElem?_eq_getElem hi, Option.getD_some] at this
  intro he
  have h3 : S[i].f5 = t := of_decide_eq_true he
  omega
theorem one_of (S : List S89) : ∀ (m : Int) (t : Nat), (∀ i : Nat, i < S.length → (S.getD i z89).f5 = m + (i : Int)) → t < S.length → S.filter (fun x => decide (kT x = m + (t : Int))) = [S.getD t z89] := by
  induction S with
  | nil => intro m t h ht; simp at ht
  | cons x xs ih =>
    intro m t h ht
    have hx : x.f5 = m := by have := h 0 (by simp); simpa using this
    have hxs : ∀ i : Nat, i < xs.length → (xs.getD i z89).f5 = (m + 1) + (i : Int) := fun i hi => by
      have := h (i + 1) (by simp; omega)
      simp only [List.getD_cons_succ] at this
      omega
    cases t with
    | zero =>
      have hn := none_of xs (m + 1) m hxs (by omega)
      have e0 : m + ((0 : Nat) : Int) = m := by omega
      rw [e0, List.filter_cons_of_pos (p := fun x => decide (kT x = m)) (decide_eq_true (show kT x = m from hx)), hn]
      rfl
    | succ t =>
      have e0 : m + ((t + 1 : Nat) : Int) = (m + 1) + (t : Int) := by omega
      rw [e0, List.filter_cons_of_neg (p := fun x => decide (kT x = m + 1 + (t : Int))) (by simp only [kT, hx, decide_eq_true_eq]; omega), ih (m + 1) t hxs (by simpa using ht)]
      rfl
theorem srt_same (F : List S89) : Srt kT (srtT F) ∧ Same kT F (srtT F) := by
  have := Stab.stab_done kT (ltOf cmpTurn) ltT F.toArray
  simpa [srtT] using this
theorem rises_one (F : List S89) (h : Rises (srtT F)) (t : Nat) (ht : t < F.length) : F.filter (fun x => decide (kT x = (t : Int))) = [(srtT F).getD t z89] := by
  have h1 := (srt_same F).2 (t : Int)
  have h2 := one_of (srtT F) 0 t (fun i hi => by have := h i hi; omega) (by rw [srt_len]; exact ht)
  rw [Int.zero_add] at h2
  rw [← h1, h2]
theorem srt_idx (S : List S89) (h : Srt kT S) (i j : Nat) (hij : i ≤ j) (hj : j < S.length) : (S.getD i z89).f5 ≤ (S.getD j z89).f5 := by
  rcases Nat.lt_or_ge i j with hlt | hge
  · have := List.pairwise_iff_getElem.1 h i j (by omega) hj hlt
    simpa [List.getD, List.getElem?_eq_getElem hj, List.getElem?_eq_getElem (show i < S.length by omega), kT] using this
  · obtain rfl : i = j := by omega
    exact Int.le_refl _
theorem ones_rises (l : List S89) (c : Int) (h : Ones l c) : Rises (srtT (FF l c)) := by
  obtain ⟨hs, hq⟩ := srt_same (FF l c)
  have hl : (srtT (FF l c)).length = (FF l c).length := srt_len _
  have hpos : ∀ t : Nat, t < (FF l c).length → ∃ p, p < (FF l c).length ∧ ((srtT (FF l c)).getD p z89).f5 = (t : Int) := fun t ht => by
    have h1 := h t ht
    unfold GG at h1
    rw [← hq (t : Int)] at h1
    obtain ⟨x, hx⟩ := List.length_eq_one_iff.1 h1
    have hm : x ∈ (srtT (FF l c)).filter (fun x => decide (kT x = (t : Int))) := by rw [hx]; exact List.mem_cons_self
    obtain ⟨hm1, hm2⟩ := List.mem_filter.1 hm
    obtain ⟨p, hp, rfl⟩ := List.mem_iff_getElem.1 hm1
    refine ⟨p, by omega, ?_⟩
    simp only [List.getD, List.getElem?_eq_getElem hp, Option.getD_some]
    exact of_decide_eq_true hm2
  generalize hS : srtT (FF l c) = S at hs hl hpos
  have low : ∀ t : Nat, t < (FF l c).length → ∀ p, p < (FF l c).length → (S.getD p z89).f5 = (t : Int) → t ≤ p := by
    intro t
    induction t with
    | zero => intro _ p _ _; omega
    | succ t ih =>
      intro ht p hp he
      obtain ⟨q, q1, q2⟩ := hpos t (by omega)
      have := ih (by omega) q q1 q2
      have hlt : q < p := by
        rcases Nat.lt_or_ge q p with g | g
        · exact g
        · have := srt_idx S hs p q g (by omega)
          omega
      omega
  have high : ∀ s t : Nat, t + s + 1 = (FF l c).length → ∀ p, p < (FF l c).length → (S.getD p z89).f5 = (t : Int) → p ≤ t := by
    intro s
    induction s with
    | zero => intro t ht p hp _; omega
    | succ s ih =>
      intro t ht p hp he
      obtain ⟨q, q1, q2⟩ := hpos (t + 1) (by omega)
      have := ih (t + 1) (by omega) q q1 q2
      have hlt : p < q := by
        rcases Nat.lt_or_ge p q with g | g
        · exact g
        · have := srt_idx S hs q p g (by omega)
          omega
      omega
  intro t ht
  obtain ⟨p, p1, p2⟩ := hpos t (by omega)
  have g1 := low t (by omega) p p1 p2
  have g2 := high ((FF l c).length - t - 1) t (by omega) p p1 p2
  obtain rfl : p = t := by omega
  exact p2
theorem rises_ones (l : List S89) (c : Int) (h : Rises (srtT (FF l c))) : Ones l c := fun t ht => by
  unfold GG
  rw [rises_one (FF l c) h t ht]
  rfl
theorem turn_is (l : List S89) (c : Int) (h : Rises (srtT (FF l c))) (t : Nat) (ht : t < (FF l c).length) : lastD z89 (GG l c (t : Int)) = (srtT (FF l c)).getD t z89 := by
  unfold GG
  rw [rises_one (FF l c) h t ht]
  rfl
theorem Equal_go (a b : List Int) (hl : a.length = b.length) (ha : a.length ≤ 1048576) (d : Nat) : ∀ (k j : Nat), a.length - j = d → j ≤ a.length → d < k → slices_Equal_int_int.l0 k a b (a.length : Int) (j : Int) = some (decide (a.drop j = b.drop j)) := by
  induction d with
  | zero =>
    intro k j hd hj hk
    obtain ⟨k, rfl⟩ : ∃ m, k = m + 1 := ⟨k - 1, by omega⟩
    simp only [slices_Equal_int_int.l0]
    have h1 : a.drop j = [] := List.drop_eq_nil_of_le (by omega)
    have h2 : b.drop j = [] := List.drop_eq_nil_of_le (by omega)
    rw [if_neg (by omega), h1, h2]
    simp
  | succ d ih =>
    intro k j hd hj hk
    obtain ⟨k, rfl⟩ : ∃ m, k = m + 1 := ⟨k - 1, by omega⟩
    simp only [slices_Equal_int_int.l0]
    rw [if_pos (by omega), if_pos (by omega), if_pos (by omega), if_pos (by omega), rd_nat, rd_nat, w64 (by omega) (by omega), show (j : Int) + 1 = ((j + 1 : Nat) : Int) by omega, List.drop_eq_getElem_cons (show j < a.length by omega), List.drop_eq_getElem_cons (show j < b.length by omega)]
    simp only [List.getD, List.getElem?_eq_getElem (show j < a.length by omega), List.getElem?_eq_getElem (show j < b.length by omega), Option.getD_some]
    by_cases h : a[j] = b[j]
    · rw [if_pos h, ih k (j + 1) (by omega) (by omega) (by omega), h]
      simp only [List.cons.injEq, true_and]
    · rw [if_neg h]
      simp only [List.cons.injEq, h, false_and, decide_false]
theorem Equal (a b : List Int) (ha : a.length ≤ 1048576) (k : Nat) (hk : a.length < k) : slices_Equal_int_int.f k a b = some (decide (a = b)) := by
  unfold slices_Equal_int_int.f
  by_cases h : a.length = b.length
  · rw [if_pos (by omega)]
    have := Equal_go a b h ha a.length k 0 (by omega) (Nat.zero_le _) hk
    simpa using this
  · rw [if_neg (by omega)]
    refine congrArg some (Eq.symm (decide_eq_false fun e => h (by rw [e])))
theorem impl_l1 (left : List Int) (Y : List S89) (hY : Y.length ≤ 1048576) (d : Nat) : ∀ (k j : Nat) (out : List Int), Y.length - j = d → j ≤ Y.length → d + 1048578 < k → out ++ (Y.drop j).map (·.f2) = Y.map (·.f2) →
    impl_RingGood.l1 k left out Y (Y.length : Int) (j : Int) = some (decide (Y.map (·.f2) = left)) := by
  induction d with
  | zero =>
    intro k j out hd hj hk hc
    obtain ⟨k, rfl⟩ : ∃ m, k = m + 1 := ⟨k - 1, by omega⟩
    simp only [impl_RingGood.l1]
    have h1 : Y.drop j = [] := List.drop_eq_nil_of_le (by omega)
    rw [h1, List.map_nil, List.append_nil] at hc
    subst hc
    rw [if_neg (by omega), Equal _ left (by rw [List.length_map]; exact hY) k (by rw [List.length_map]; omega)]
    rfl
  | succ d ih =>
    intro k j out hd hj hk hc
    obtain ⟨k, rfl⟩ : ∃ m, k = m + 1 := ⟨k - 1, by omega⟩
    simp only [impl_RingGood.l1]
    have ho : out.length ≤ 1048576 := by
      have := congrArg List.length hc
      simp at this
      omega
    rw [get_drop89 Y j (by omega), List.map_cons] at hc
    rw [if_pos (by omega), if_pos (by omega), if_pos (by omega), if_pos (by omega), rdT89_nat, w64 (by omega) (by omega), show (j : Int) + 1 = ((j + 1 : Nat) : Int) by omega]
    exact ih k (j + 1) _ (by omega) (by omega) (by omega) (by rw [List.append_assoc, List.singleton_append]; exact hc)
def GP (G P : List S89) (j : Nat) : Prop := ∀ i : Nat, i < G.length → j ≤ i → (G.getD i z89).f4 = (P.getD i z89).f2
theorem impl_l0 (left : List Int) (P G : List S89) (hP : P.length ≤ 1048576) (hG : G.length ≤ P.length) (d : Nat) : ∀ (k j : Nat), G.length - j = d → j ≤ G.length → d + 2097160 < k →
    ∃ B : Bool, impl_RingGood.l0 k left P G G (G.length : Int) (j : Int) = some B ∧ (B = true ↔ GP G P j ∧ (P.drop G.length).map (·.f2) = left) := by
  induction d with
  | zero =>
    intro k j hd hj hk
    obtain ⟨k, rfl⟩ : ∃ m, k = m + 1 := ⟨k - 1, by omega⟩
    simp only [impl_RingGood.l0]
    rw [if_neg (by omega), if_pos (by omega), if_pos (by omega), Option.bind_some, Int.toNat_natCast]
    have := impl_l1 left (P.drop G.length) (by rw [List.length_drop]; omega) (P.drop G.length).length k 0 [] (by omega) (Nat.zero_le _) (by rw [List.length_drop]; omega) (by rw [List.drop_zero, List.nil_append])
    refine ⟨_, this, ?_⟩
    rw [decide_eq_true_eq]
    exact ⟨fun h => ⟨fun i h1 h2 => by omega, h⟩, fun h => h.2⟩
  | succ d ih =>
    intro k j hd hj hk
    obtain ⟨k, rfl⟩ : ∃ m, k = m + 1 := ⟨k - 1, by omega⟩
    simp only [impl_RingGood.l0]
    rw [if_pos (by omega), if_pos (by omega), if_pos (by omega), if_pos (by omega), rdT89_nat, rdT89_nat, w64 (by omega) (by omega), show (j : Int) + 1 = ((j + 1 : Nat) : Int) by omega]
    by_cases h : (G.getD j z89).f4 = (P.getD j z89).f2
    · rw [if_pos h]
      obtain ⟨B, h1, h2⟩ := ih k (j + 1) (by omega) (by omega) (by omega)
      refine ⟨B, h1, h2.trans ⟨fun g => ⟨fun i g1 g2 => ?_, g.2⟩, fun g => ⟨fun i g1 g2 => g.1 i g1 (by omega), g.2⟩⟩⟩
      by_cases e : i = j
      · subst e; exact h
      · exact g.1 i g1 (by omega)
    · rw [if_neg h]
      exact ⟨false, rfl, by simp only [Bool.false_eq_true, false_iff]; exact fun g => h (g.1 j (by omega) (Nat.le_refl _))⟩
def SP (left : List Int) (P G : List S89) (j : Nat) : Prop := ∀ i : Nat, i < P.length → j ≤ i → if G.length ≤ i then left.getD (i - G.length) 0 = (P.getD i z89).f2 else (G.getD i z89).f4 = (P.getD i z89).f2
theorem spec_l0 (l : List S89) (hl : l.length ≤ 1048576) (left : List Int) (h1 : Rises (srtT (FF l 1))) (h2 : Rises (srtT (FF l 2))) (hle : (FF l 2).length ≤ (FF l 1).length) (hlen : left.length = (FF l 1).length - (FF l 2).length) (d : Nat) : ∀ (k j : Nat), (FF l 1).length - j = d → j ≤ (FF l 1).length → d + 1048577 < k →
    ∃ B : Bool, spec_RingGood.l0 k l left ((FF l 1).length : Int) ((FF l 2).length : Int) (j : Int) = some B ∧ (B = true ↔ SP left (srtT (FF l 1)) (srtT (FF l 2)) j) := by
  have hF1 := FF_le l 1
  have e1 : (srtT (FF l 1)).length = (FF l 1).length := srt_len _
  have e2 : (srtT (FF l 2)).length = (FF l 2).length := srt_len _
  induction d with
  | zero =>
    intro k j hd hj hk
    obtain ⟨k, rfl⟩ : ∃ m, k = m + 1 := ⟨k - 1, by omega⟩
    simp only [spec_RingGood.l0]
    rw [if_neg (by omega)]
    exact ⟨true, rfl, by simp only [true_iff]; exact fun i g1 g2 => by omega⟩
  | succ d ih =>
    intro k j hd hj hk
    obtain ⟨k, rfl⟩ : ∃ m, k = m + 1 := ⟨k - 1, by omega⟩
    obtain ⟨B, b1, b2⟩ := ih k (j + 1) (by omega) (by omega) (by omega)
    have stepOn : (if (srtT (FF l 2)).length ≤ j then left.getD (j - (srtT (FF l 2)).length) 0 = ((srtT (FF l 1)).getD j z89).f2 else ((srtT (FF l 2)).getD j z89).f4 = ((srtT (FF l 1)).getD j z89).f2) → (SP left (srtT (FF l 1)) (srtT (FF l 2)) (j + 1) ↔ SP left (srtT (FF l 1)) (srtT (FF l 2)) j) := fun h => by
      refine ⟨fun g i g1 g2 => ?_, fun g i g1 g2 => g i g1 (by omega)⟩
      by_cases e : i = j
      · subst e; exact h
      · exact g i g1 (by omega)
    simp only [spec_RingGood.l0]
    rw [if_pos (by omega), Turn l hl 1 (j : Int) k (by omega), Option.bind_some, turn_is l 1 h1 j (by omega)]
    by_cases hg : (FF l 2).length ≤ j
    · rw [if_pos (by omega), w64 (x := (j : Int) - ((FF l 2).length : Int)) (by omega) (by omega), if_pos (by omega), if_pos (by omega), show (j : Int) - ((FF l 2).length : Int) = ((j - (FF l 2).length : Nat) : Int) by omega, rd_nat, w64 (by omega) (by omega), show (j : Int) + 1 = ((j + 1 : Nat) : Int) by omega]
      show ∃ B : Bool, (if left.getD (j - (FF l 2).length) 0 = ((srtT (FF l 1)).getD j z89).f2 then spec_RingGood.l0 k l left ((FF l 1).length : Int) ((FF l 2).length : Int) ((j + 1 : Nat) : Int) else some false) = some B ∧ _
      by_cases h : left.getD (j - (FF l 2).length) 0 = ((srtT (FF l 1)).getD j z89).f2
      · rw [if_pos h]
        exact ⟨B, b1, b2.trans (stepOn (by rw [e2, if_pos hg]; exact h))⟩
      · rw [if_neg h]
        refine ⟨false, rfl, ?_⟩
        simp only [Bool.false_eq_true, false_iff]
        intro g
        have := g j (by omega) (Nat.le_refl _)
        rw [e2, if_pos hg] at this
        exact h this
    · rw [if_neg (by omega), Turn l hl 2 (j : Int) k (by omega), Option.bind_some, turn_is l 2 h2 j (by omega), w64 (by omega) (by omega), show (j : Int) + 1 = ((j + 1 : Nat) : Int) by omega]
      show ∃ B : Bool, (if ((srtT (FF l 2)).getD j z89).f4 = ((srtT (FF l 1)).getD j z89).f2 then spec_RingGood.l0 k l left ((FF l 1).length : Int) ((FF l 2).length : Int) ((j + 1 : Nat) : Int) else some false) = some B ∧ _
      by_cases h : ((srtT (FF l 2)).getD j z89).f4 = ((srtT (FF l 1)).getD j z89).f2
      · rw [if_pos h]
        exact ⟨B, b1, b2.trans (stepOn (by rw [e2, if_neg hg]; exact h))⟩
      · rw [if_neg h]
        refine ⟨false, rfl, ?_⟩
        simp only [Bool.false_eq_true, false_iff]
        intro g
        have := g j (by omega) (Nat.le_refl _)
        rw [e2, if_neg hg] at this
        exact h this
theorem same_prop (left : List Int) (P G : List S89) (hle : G.length ≤ P.length) (hlen : left.length = P.length - G.length) : SP left P G 0 ↔ GP G P 0 ∧ (P.drop G.length).map (·.f2) = left := by
  constructor
  · intro h
    refine ⟨fun i h1 _ => ?_, ?_⟩
    · have := h i (by omega) (Nat.zero_le _)
      rwa [if_neg (by omega)] at this
    · refine List.ext_getElem? fun i => ?_
      by_cases hi : i < left.length
      · have := h (i + G.length) (by omega) (Nat.zero_le _)
        rw [if_pos (by omega), Nat.add_sub_cancel] at this
        simp only [List.getD, List.getElem?_eq_getElem hi, List.getElem?_eq_getElem (show i + G.length < P.length by omega), Option.getD_some] at this
        rw [List.getElem?_map, List.getElem?_drop, Nat.add_comm G.length i, List.getElem?_eq_getElem (show i + G.length < P.length by omega), List.getElem?_eq_getElem hi, this]
        rfl
      · rw [List.getElem?_eq_none (by simp; omega), List.getElem?_eq_none (by omega)]
  · rintro ⟨h1, h2⟩ i hi _
    by_cases hg : G.length ≤ i
    · rw [if_pos hg, ← h2]
      simp only [List.getD, List.getElem?_map, List.getElem?_drop]
      rw [show G.length + (i - G.length) = i by omega, List.getElem?_eq_getElem hi]
      rfl
    · rw [if_neg hg]
      exact h1 i (by omega) (Nat.zero_le _)
theorem RingGood_both (l : List S89) (hl : l.length ≤ 1048576) (left : List Int) (hle : left.length ≤ 1048576) : ∃ B, ∀ k, 5000000 ≤ k → spec_RingGood.f k l left = some B ∧ impl_RingGood.f k l left = some B := by
  classical
  have n1 : ¬ ((-1 : Int) = ((FF l 1).length : Int)) := by omega
  have hF1 := FF_le l 1
  have hF2 := FF_le l 2
  have e1 : (srtT (FF l 1)).length = (FF l 1).length := srt_len _
  have e2 : (srtT (FF l 2)).length = (FF l 2).length := srt_len _
  have jf : ∀ (k : Nat) (a b : Int), spec_RingGood.j0 (k + 1) l left a b true = some false := fun k a b => by simp only [spec_RingGood.j0, if_true]
  have jg : ∀ (k : Nat) (P G : List S89), impl_RingGood.j0 (k + 1) left P G true = some false := fun k P G => by simp only [impl_RingGood.j0, if_true]
  by_cases r1 : Rises (srtT (FF l 1))
  · have o1 := rises_ones l 1 r1
    by_cases r2 : Rises (srtT (FF l 2))
    · have o2 := rises_ones l 2 r2
      by_cases hc : (FF l 2).length ≤ (FF l 1).length
      · by_cases hlen : left.length = (FF l 1).length - (FF l 2).length
        · -- all is there: the two loops
          refine ⟨decide (SP left (srtT (FF l 1)) (srtT (FF l 2)) 0), fun k hk => ?_⟩
          obtain ⟨k, rfl⟩ : ∃ m, k = m + 1 := ⟨k - 1, by omega⟩
          obtain ⟨B1, s1, s2⟩ := spec_l0 l hl left r1 r2 hc hlen (FF l 1).length k 0 (by omega) (Nat.zero_le _) (by omega)
          obtain ⟨B2, i1, i2⟩ := impl_l0 left (srtT (FF l 1)) (srtT (FF l 2)) (by omega) (by omega) (srtT (FF l 2)).length k 0 (by omega) (Nat.zero_le _) (by omega)
          have hB1 : B1 = decide (SP left (srtT (FF l 1)) (srtT (FF l 2)) 0) := by
            rw [Bool.eq_iff_iff, s2, decide_eq_true_eq]
          have hB2 : B2 = decide (SP left (srtT (FF l 1)) (srtT (FF l 2)) 0) := by
            rw [Bool.eq_iff_iff, i2, decide_eq_true_eq, same_prop left _ _ (by omega) (by omega)]
          refine ⟨?_, ?_⟩
          · unfold spec_RingGood.f
            rw [Turns l hl 1 (k + 1) (by omega), Turns l hl 2 (k + 1) (by omega), Option.bind_some, Option.bind_some, if_pos o1, if_pos o2, if_neg (by omega), if_neg (by omega), if_neg (by omega), w64 (by omega) (by omega)]
            have hb : ((left.length : Int) != ((FF l 1).length : Int) - ((FF l 2).length : Int)) = false := by simp; omega
            rw [hb]
            simp only [spec_RingGood.j0, Bool.false_eq_true, if_false]
            rw [← hB1]
            exact s1
          · unfold impl_RingGood.f
            rw [turns l hl 1 (k + 1) (by omega), turns l hl 2 (k + 1) (by omega), Option.bind_some, Option.bind_some, if_pos r1, if_pos r2]
            have hb : decide (((srtT (FF l 2)).length : Int) > ((srtT (FF l 1)).length : Int)) = false := decide_eq_false (by omega)
            simp only [if_true, hb]
            simp only [impl_RingGood.j0, Bool.false_eq_true, if_false]
            rw [← hB2]
            exact i1
        · refine ⟨false, fun k hk => ?_⟩
          obtain ⟨k, rfl⟩ : ∃ m, k = m + 1 := ⟨k - 1, by omega⟩
          obtain ⟨B2, i1, i2⟩ := impl_l0 left (srtT (FF l 1)) (srtT (FF l 2)) (by omega) (by omega) (srtT (FF l 2)).length k 0 (by omega) (Nat.zero_le _) (by omega)
          have hB2 : B2 = false := by
            cases hB : B2 with
            | false => rfl
            | true =>
              have := (i2.1 hB).2
              exact absurd (by rw [← this, List.length_map, List.length_drop, e1, e2]) hlen
          refine ⟨?_, ?_⟩
          · unfold spec_RingGood.f
            rw [Turns l hl 1 (k + 1) (by omega), Turns l hl 2 (k + 1) (by omega), Option.bind_some, Option.bind_some, if_pos o1, if_pos o2, if_neg (by omega), if_neg (by omega), if_neg (by omega), w64 (by omega) (by omega)]
            have hb : ((left.length : Int) != ((FF l 1).length : Int) - ((FF l 2).length : Int)) = true := by simp; omega
            rw [hb]
            exact jf _ _ _
          · unfold impl_RingGood.f
            rw [turns l hl 1 (k + 1) (by omega), turns l hl 2 (k + 1) (by omega), Option.bind_some, Option.bind_some, if_pos r1, if_pos r2]
            have hb : decide (((srtT (FF l 2)).length : Int) > ((srtT (FF l 1)).length : Int)) = false := decide_eq_false (by omega)
            simp only [if_true, hb]
            simp only [impl_RingGood.j0, Bool.false_eq_true, if_false]
            rw [← hB2]
            exact i1
      · refine ⟨false, fun k hk => ?_⟩
        obtain ⟨k, rfl⟩ : ∃ m, k = m + 1 := ⟨k - 1, by omega⟩
        refine ⟨?_, ?_⟩
        · unfold spec_RingGood.f
          rw [Turns l hl 1 (k + 1) (by omega), Turns l hl 2 (k + 1) (by omega), Option.bind_some, Option.bind_some, if_pos o1, if_pos o2, if_neg (by omega), if_neg (by omega), if_pos (by omega)]
          exact jf _ _ _
        · unfold impl_RingGood.f
          rw [turns l hl 1 (k + 1) (by omega), turns l hl 2 (k + 1) (by omega), Option.bind_some, Option.bind_some, if_pos r1, if_pos r2]
          have hb : decide (((srtT (FF l 2)).length : Int) > ((srtT (FF l 1)).length : Int)) = true := decide_eq_true (by omega)
          simp only [if_true, hb]
          exact jg _ _ _
    · have o2 : ¬ Ones l 2 := fun h => r2 (ones_rises l 2 h)
      refine ⟨false, fun k hk => ?_⟩
      obtain ⟨k, rfl⟩ : ∃ m, k = m + 1 := ⟨k - 1, by omega⟩
      refine ⟨?_, ?_⟩
      · unfold spec_RingGood.f
        rw [Turns l hl 1 (k + 1) (by omega), Turns l hl 2 (k + 1) (by omega), Option.bind_some, Option.bind_some, if_pos o1, if_neg o2, if_neg (by omega), if_pos (by omega)]
        exact jf _ _ _
      · unfold impl_RingGood.f
        rw [turns l hl 1 (k + 1) (by omega), turns l hl 2 (k + 1) (by omega), Option.bind_some, Option.bind_some, if_pos r1, if_neg r2]
        simp only [if_true, Bool.false_eq_true, if_false]
        exact jg _ _ _
  · have o1 : ¬ Ones l 1 := fun h => r1 (ones_rises l 1 h)
    refine ⟨false, fun k hk => ?_⟩
    obtain ⟨k, rfl⟩ : ∃ m, k = m + 1 := ⟨k - 1, by omega⟩
    refine ⟨?_, ?_⟩
    · unfold spec_RingGood.f
      rw [Turns l hl 1 (k + 1) (by omega), Turns l hl 2 (k + 1) (by omega), Option.bind_some, Option.bind_some, if_neg o1, if_pos (by omega)]
      exact jf _ _ _
    · unfold impl_RingGood.f
      rw [turns l hl 1 (k + 1) (by omega), turns l hl 2 (k + 1) (by omega), Option.bind_some, Option.bind_some, if_neg r1]
      simp only [Bool.false_eq_true, if_false]
      exact jg _ _ _


theorem FnExactRingGood : laws_FnExactRingGood.Pure := by
  intro l left ⟨hm, _⟩ _
  by_cases hle : left.length ≤ 1048576
  · by_cases hl : l.length ≤ 1048576
    · obtain ⟨K, hK⟩ : ∃ K : Nat, 5000010 ≤ K := ⟨5000010, Nat.le_refl _⟩
      refine ⟨K, ?_⟩
      obtain ⟨B, hB⟩ := RingGood_both (l.map cv) (by simpa using hl) left hle
      obtain ⟨b1, b2⟩ := hB K (by omega)
      have hsz : laws_szFactS.f l 1048576 = some (1048576 - (l.length : Int)) := by
        unfold laws_szFactS.f
        rw [w64 (by omega) (by omega), if_neg (by omega)]
      have n1 : ¬ (1048576 - (l.length : Int)) < 0 := by omega
      have hlm : (l.map cv).length = l.length := List.length_map ..
      unfold laws_FnExactRingGood.f
      rw [if_neg (by omega), hsz, Option.bind_some, if_neg n1]
      simp (disch := (first | omega | (rw [hlm]; omega))) only [Option.bind_some, toFactS, toIntS, b1, b2, eqFactS, eqIntS, bne_self_eq_false, if_true, if_false, reduceIte, Bool.false_eq_true]
    · refine ⟨0, ?_⟩
      have hsz : laws_szFactS.f l 1048576 = some (-1) := by
        have hmx : l.length ≤ 9223372036854775807 := hm
        unfold laws_szFactS.f
        rw [w64 (by omega) (by omega), if_pos (by omega)]
      unfold laws_FnExactRingGood.f
      rw [if_neg (by omega), hsz, Option.bind_some, if_pos (by omega)]
  · refine ⟨0, ?_⟩
    unfold laws_FnExactRingGood.f
    rw [if_pos (by omega)]

end Go.Proofs.Ytgghglocfdcegaa.Pure
