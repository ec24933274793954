/- The law FnExactInTime answers true whatever its arguments hold: the program's function and the reference's come to the same, and no list of an answer is shared. No condition. -/
import Derived.Test.YtgghglocfdcegaaPFnExactInTimex4
import Derived.Test.YtgghglocfdcegaaStabP
namespace Go.Proofs.Ytgghglocfdcegaa.Pure
open Go.RowKit Go.Proofs.Ytgghglocfdcegaa.PFnExactInTime Go.Proofs.YtgghglocfdcegaaW.PrintWords Go.Proofs.YtgghglocfdcegaaW.PrintLast
set_option linter.unusedSimpArgs false
set_option linter.unusedVariables false

/-! Small facts. -/
theorem w64 {x : Int} (h0 : -9223372036854775808 ≤ x) (h1 : x ≤ 9223372036854775807) : wrap64 x = x := by unfold wrap64; omega
theorem rd_nat (l : List Int) (j : Nat) : rd l (j : Int) = l.getD j 0 := by simp [rd]
/-- The numbers from m on, n of them. -/
def marked (m : Int) (n : Nat) : List Int := (List.range n).map fun (i : Nat) => m + (i : Int)
theorem marked_len (m : Int) (n : Nat) : (marked m n).length = n := by simp [marked]
theorem marked_get (m : Int) (n j : Nat) (h : j < n) : (marked m n).getD j 0 = m + j := by simp [marked, List.getD, h]
theorem neg1 (n : Nat) : ((1 : Int) + (n : Int) < 0) = False := by simp only [eq_iff_iff, iff_false]; omega
theorem neg0 : ((-1 : Int) < 0) = True := by simp
theorem i64r {n : Int} (h : (Lit.int .i64 n).wf = true) : -9223372036854775808 ≤ n ∧ n ≤ 9223372036854775807 := by
  have e1 : IntKind.i64.min = -9223372036854775808 := by decide
  have e2 : IntKind.i64.max = 9223372036854775807 := by decide
  simp only [Lit.wf, Bool.and_eq_true, decide_eq_true_eq, e1, e2] at h
  exact h

/-! The rows of facts. -/
theorem rdT89_nat (l : List S89) (j : Nat) : rd_T89 l (j : Int) = l.getD j z89 := by simp [rd_T89]
theorem rd89_set (l : List S89) (j : Nat) (h : j < l.length) (v : S89) : rd_T89 (l.set ((j : Int)).toNat v) (j : Int) = v := by
  rw [rdT89_nat, Int.toNat_natCast, List.getD_eq_getElem?_getD, List.getElem?_set_self h]; rfl
theorem bind_to {α β : Type} {a : α} (b : α) {f : α → Option β} (h : a = b) : (some a).bind f = f b := by rw [h]; rfl
theorem eqFactS_go (x : List S89) (hx : x.length ≤ 1099511627776) (d : Nat) : ∀ (k j : Nat), x.length - j = d → j ≤ x.length → d < k → laws_eqFactS.l0 k x x (j : Int) = some true := by
  induction d with
  | zero =>
    intro k j hd hj hk
    obtain ⟨k, rfl⟩ : ∃ e, k = e + 1 := ⟨k - 1, by omega⟩
    simp only [laws_eqFactS.l0]
    rw [if_neg (by omega)]
  | succ d ih =>
    intro k j hd hj hk
    obtain ⟨k, rfl⟩ : ∃ e, k = e + 1 := ⟨k - 1, by omega⟩
    simp only [laws_eqFactS.l0, laws_eqFact.f]
    rw [if_pos (by omega), if_pos (by omega), if_pos (by omega)]
    simp only [if_true, Option.bind_some]
    rw [w64 (by omega) (by omega), show (j : Int) + 1 = ((j + 1 : Nat) : Int) by omega]
    exact ih k (j + 1) (by omega) (by omega) (by omega)
theorem eqFactS (k : Nat) (l : List S89) (hl : l.length ≤ 1099511627776) (hk : l.length < k) : laws_eqFactS.f k l l = some true := by
  unfold laws_eqFactS.f
  rw [if_pos rfl]
  exact eqFactS_go l hl l.length k 0 (by omega) (by omega) hk
def fm (X : Int) : S89 := ⟨X, X + 1, X + 2, X + 3, X + 4, X + 5, X + 6, X + 7⟩
def fmarked (m : Int) (n : Nat) : List S89 := (List.range n).map fun (i : Nat) => fm (m + 8 * (i : Int))
theorem fmarked_len (m : Int) (n : Nat) : (fmarked m n).length = n := by simp [fmarked]
theorem fmarked_get (m : Int) (n j : Nat) (h : j < n) : (fmarked m n).getD j z89 = fm (m + 8 * (j : Int)) := by simp [fmarked, List.getD, h]
theorem wraps (X : Int) (h0 : 0 ≤ X) (h1 : X ≤ 1000000000000000000) : wrap64 (X + 1) = X + 1 ∧ wrap64 (X + 1 + 1) = X + 2 ∧ wrap64 (X + 2 + 1) = X + 3 ∧ wrap64 (X + 3 + 1) = X + 4 ∧ wrap64 (X + 4 + 1) = X + 5 ∧ wrap64 (X + 5 + 1) = X + 6 ∧ wrap64 (X + 6 + 1) = X + 7 ∧ wrap64 (X + 7 + 1) = X + 8 := by
  refine ⟨?_, ?_, ?_, ?_, ?_, ?_, ?_, ?_⟩ <;> (rw [w64 (by omega) (by omega)]; try omega)
theorem markFactS_step (k j : Nat) (x : List S89) (X : Int) (h : j < x.length) (hx : x.length ≤ 1099511627776) (h0 : 0 ≤ X) (h1 : X ≤ 1000000000000000000) : laws_markFactS.l0 (k + 1) x X (j : Int) = laws_markFactS.l0 k (x.set j (fm X)) (X + 8) ((j + 1 : Nat) : Int) := by
  obtain ⟨w1, w2, w3, w4, w5, w6, w7, w8⟩ := wraps X h0 h1
  simp only [laws_markFactS.l0]
  rw [if_pos (by omega), if_pos (by omega)]
  rw [w1, w2, w3, w4, w5, w6, w7, w8, w64 (x := (j : Int) + 1) (by omega) (by omega)]
  generalize rd_T89 x (j : Int) = t
  have st : ∀ v v' : S89, (x.set ((j : Int)).toNat v).set ((j : Int)).toNat v' = x.set ((j : Int)).toNat v' := fun v v' => List.set_set ..
  rw [bind_to (x.set ((j : Int)).toNat ⟨X, t.f1, t.f2, t.f3, t.f4, t.f5, t.f6, t.f7⟩) rfl]
  rw [bind_to (x.set ((j : Int)).toNat ⟨X, X + 1, t.f2, t.f3, t.f4, t.f5, t.f6, t.f7⟩) (by rw [rd89_set x j h, st])]
  rw [bind_to (x.set ((j : Int)).toNat ⟨X, X + 1, X + 2, t.f3, t.f4, t.f5, t.f6, t.f7⟩) (by rw [rd89_set x j h, st])]
  rw [bind_to (x.set ((j : Int)).toNat ⟨X, X + 1, X + 2, X + 3, t.f4, t.f5, t.f6, t.f7⟩) (by rw [rd89_set x j h, st])]
  rw [bind_to (x.set ((j : Int)).toNat ⟨X, X + 1, X + 2, X + 3, X + 4, t.f5, t.f6, t.f7⟩) (by rw [rd89_set x j h, st])]
  rw [bind_to (x.set ((j : Int)).toNat ⟨X, X + 1, X + 2, X + 3, X + 4, X + 5, t.f6, t.f7⟩) (by rw [rd89_set x j h, st])]
  rw [bind_to (x.set ((j : Int)).toNat ⟨X, X + 1, X + 2, X + 3, X + 4, X + 5, X + 6, t.f7⟩) (by rw [rd89_set x j h, st])]
  rw [rd89_set x j h, st, Int.toNat_natCast, show (j : Int) + 1 = ((j + 1 : Nat) : Int) by omega]
  rfl
theorem markFactS_go (n : Nat) (hn : n ≤ 1099511627776) (m : Int) (hm0 : 0 ≤ m) (hm : m ≤ 1000000000) (d : Nat) : ∀ (k j : Nat) (x0 : List S89), x0.length = n → n - j = d → j ≤ n → d < k → (∀ i, i < j → x0[i]? = some (fm (m + 8 * (i : Int)))) →
    laws_markFactS.l0 k x0 (m + 8 * (j : Int)) (j : Int) = some (m + 8 * (n : Int), fmarked m n) := by
  induction d with
  | zero =>
    intro k j x0 hl hd hj hk hp
    obtain ⟨k, rfl⟩ : ∃ e, k = e + 1 := ⟨k - 1, by omega⟩
    simp only [laws_markFactS.l0]
    rw [if_neg (by omega)]
    have : j = n := by omega
    subst this
    refine congrArg some (Prod.ext rfl ?_)
    refine List.ext_getElem? fun i => ?_
    by_cases h : i < j
    · rw [hp i h]; simp [fmarked, h]
    · rw [List.getElem?_eq_none (show (fmarked m j).length ≤ i by rw [fmarked_len]; omega)]
      exact List.getElem?_eq_none (show x0.length ≤ i by omega)
  | succ d ih =>
    intro k j x0 hl hd hj hk hp
    obtain ⟨k, rfl⟩ : ∃ e, k = e + 1 := ⟨k - 1, by omega⟩
    rw [markFactS_step k j x0 _ (by omega) (by omega) (by omega) (by omega), show m + 8 * (j : Int) + 8 = m + 8 * ((j + 1 : Nat) : Int) by omega]
    refine ih k (j + 1) _ (by rw [List.length_set]; exact hl) (by omega) (by omega) (by omega) fun i hi => ?_
    by_cases h : i = j
    · subst h
      rw [List.getElem?_set_self (by omega)]
    · rw [List.getElem?_set_ne (by omega), hp i (by omega)]
theorem markFactS (k : Nat) (l : List S89) (m : Int) (hm0 : 0 ≤ m) (hm : m ≤ 1000000000) (hl : l.length ≤ 1099511627776) (hk : l.length < k) : laws_markFactS.f k l m = some (m + 8 * (l.length : Int), fmarked m l.length) := by
  unfold laws_markFactS.f
  have := markFactS_go l.length (by omega) m hm0 hm l.length k 0 l rfl (by omega) (by omega) (by omega) (fun i hi => by omega)
  simpa using this
theorem heldFactS_go (n : Nat) (hn : n ≤ 1099511627776) (m : Int) (hm0 : 0 ≤ m) (hm : m ≤ 1000000000) (d : Nat) : ∀ (k j : Nat), n - j = d → j ≤ n → d < k →
    laws_heldFactS.l0 k (fmarked m n) (m + 8 * (j : Int)) (j : Int) = some (m + 8 * (n : Int)) := by
  induction d with
  | zero =>
    intro k j hd hj hk
    obtain ⟨k, rfl⟩ : ∃ e, k = e + 1 := ⟨k - 1, by omega⟩
    simp only [laws_heldFactS.l0]
    rw [fmarked_len, if_neg (by omega), show j = n by omega]
  | succ d ih =>
    intro k j hd hj hk
    obtain ⟨k, rfl⟩ : ∃ e, k = e + 1 := ⟨k - 1, by omega⟩
    obtain ⟨X, hX⟩ : ∃ X, X = m + 8 * (j : Int) := ⟨_, rfl⟩
    obtain ⟨w1, w2, w3, w4, w5, w6, w7, w8⟩ := wraps X (by omega) (by omega)
    simp only [laws_heldFactS.l0]
    rw [fmarked_len, if_pos (by omega), if_pos (by omega), rdT89_nat, fmarked_get m n j (by omega), ← hX, w1, w2, w3, w4, w5, w6, w7, w8, w64 (x := (j : Int) + 1) (by omega) (by omega)]
    rw [if_pos (show (fm X).f0 = X from rfl), if_pos (show (fm X).f1 = X + 1 from rfl), if_pos (show (fm X).f2 = X + 2 from rfl), if_pos (show (fm X).f3 = X + 3 from rfl), if_pos (show (fm X).f4 = X + 4 from rfl), if_pos (show (fm X).f5 = X + 5 from rfl), if_pos (show (fm X).f6 = X + 6 from rfl), if_pos (show (fm X).f7 = X + 7 from rfl), show X + 8 = m + 8 * ((j + 1 : Nat) : Int) by omega, show (j : Int) + 1 = ((j + 1 : Nat) : Int) by omega]
    exact ih k (j + 1) (by omega) (by omega) (by omega)
theorem heldFactS (k n : Nat) (m : Int) (hm0 : 0 ≤ m) (hm : m ≤ 1000000000) (hn : n ≤ 1099511627776) (hk : n < k) : laws_heldFactS.f k (fmarked m n) m = some (m + 8 * (n : Int)) := by
  unfold laws_heldFactS.f
  have := heldFactS_go n hn m hm0 hm n k 0 (by omega) (by omega) (by omega)
  simpa using this

/-! InTime. -/
open Go.Proofs.Ytgghglocfdcegaa.Stab (Srt Same)
def cv (x : S92) : S89 := ⟨x.f0, x.f1, x.f2, x.f3, x.f4, x.f5, x.f6, x.f7⟩
theorem rdT92_nat (l : List S92) (j : Nat) : rd_T92 l (j : Int) = l.getD j z92 := by simp [rd_T92]
theorem toFactS_go (x0 : List S92) (hx : x0.length ≤ 1048576) (d : Nat) : ∀ (k j : Nat) (x3 : List S89), x3.length = x0.length → x0.length - j = d → j ≤ x0.length → d < k → (∀ i, i < j → x3[i]? = (x0.map cv)[i]?) → laws_toFactS.l0 k x0 x3 (j : Int) = some (x0.map cv) := by
  induction d with
  | zero =>
    intro k j x3 hl hd hj hk he
    obtain ⟨k, rfl⟩ : ∃ m, k = m + 1 := ⟨k - 1, by omega⟩
    simp only [laws_toFactS.l0]
    rw [if_neg (by omega)]
    refine congrArg some (List.ext_getElem? fun i => ?_)
    by_cases hi : i < j
    · exact he i hi
    · rw [List.getElem?_eq_none (by omega), List.getElem?_eq_none (by simp; omega)]
  | succ d ih =>
    intro k j x3 hl hd hj hk he
    obtain ⟨k, rfl⟩ : ∃ m, k = m + 1 := ⟨k - 1, by omega⟩
    simp only [laws_toFactS.l0]
    rw [if_pos (by omega), if_pos (by omega)]
    simp only [laws_toFact.f, Option.bind_some]
    rw [if_pos (by omega), w64 (by omega) (by omega), show (j : Int) + 1 = ((j + 1 : Nat) : Int) by omega]
    refine ih k (j + 1) _ (by simpa using hl) (by omega) (by omega) (by omega) ?_
    intro i hi
    rw [rdT92_nat, Int.toNat_natCast, List.getElem?_set]
    by_cases hij : j = i
    · subst hij
      rw [if_pos rfl, if_pos (by omega), List.getElem?_map, List.getElem?_eq_getElem (by omega)]
      simp [List.getD, List.getElem?_eq_getElem (show j < x0.length by omega), cv]
    · rw [if_neg hij]
      exact he i (by omega)
theorem toFactS (k : Nat) (l : List S92) (hl : l.length ≤ 1048576) (hk : l.length < k) : laws_toFactS.f k l = some (l.map cv) := by
  unfold laws_toFactS.f
  rw [if_pos (by omega), if_pos (by omega)]
  exact toFactS_go l hl l.length k 0 _ (by simp) (by omega) (by omega) (by omega) (fun i hi => absurd hi (by omega))
theorem at_go (F : S89) (l : List S89) (n i : Int) (out : List S89) (ho : out.length ≤ 1048576) (d : Nat) : ∀ (j : Nat), out.length - j = d → j ≤ out.length → (∀ x ∈ out.take j, x.f7 ≤ F.f7) →
    ∃ p, j ≤ p ∧ p ≤ out.length ∧ (∀ x ∈ out.take p, x.f7 ≤ F.f7) ∧ (p < out.length → F.f7 < (out.getD p z89).f7) ∧ ∀ k, ∃ k', k ≤ k' ∧ spec_InTime.l1 (k + d + 1) out (j : Int) l n i F.f0 F.f1 F.f2 F.f3 F.f4 F.f5 F.f6 F.f7 = spec_InTime.j2 k' out (p : Int) l n i F.f0 F.f1 F.f2 F.f3 F.f4 F.f5 F.f6 F.f7 := by
  induction d with
  | zero =>
    intro j hd hj hp
    refine ⟨j, Nat.le_refl _, hj, hp, fun h => by omega, fun k => ⟨k, Nat.le_refl _, ?_⟩⟩
    simp only [Nat.add_zero, spec_InTime.l1]
    rw [if_neg (by omega)]
  | succ d ih =>
    intro j hd hj hp
    by_cases hc : (out.getD j z89).f7 ≤ F.f7
    · obtain ⟨p, h1, h2, h3, h4, h5⟩ := ih (j + 1) (by omega) (by omega) (fun x hx => by
        rw [List.take_succ_eq_append_getElem (by omega)] at hx
        rcases List.mem_append.1 hx with hx | hx
        · exact hp x hx
        · obtain rfl := List.mem_singleton.1 hx
          simpa [List.getD, List.getElem?_eq_getElem (show j < out.length by omega)] using hc)
      refine ⟨p, by omega, h2, h3, h4, fun k => ?_⟩
      obtain ⟨k', h6, h7⟩ := h5 k
      refine ⟨k', h6, ?_⟩
      rw [show k + (d + 1) + 1 = (k + d + 1) + 1 by omega]
      simp only [spec_InTime.l1]
      rw [if_pos (by omega), if_pos (by omega), rdT89_nat, if_pos hc, w64 (by omega) (by omega), show (j : Int) + 1 = ((j + 1 : Nat) : Int) by omega]
      exact h7
    · refine ⟨j, Nat.le_refl _, hj, hp, fun _ => by omega, fun k => ⟨k + d + 1, by omega, ?_⟩⟩
      rw [show k + (d + 1) + 1 = (k + d + 1) + 1 by omega]
      simp only [spec_InTime.l1]
      rw [if_pos (by omega), if_pos (by omega), rdT89_nat, if_neg hc]
def kE (x : S89) : Int := x.f7
theorem put_srt (F : S89) (out : List S89) (hs : Srt kE out) (p : Nat) (hp : p ≤ out.length) (h1 : ∀ x ∈ out.take p, x.f7 ≤ F.f7) (h2 : p < out.length → F.f7 < (out.getD p z89).f7) :
    Srt kE (out.take p ++ [F] ++ out.drop p) ∧ Same kE (out ++ [F]) (out.take p ++ [F] ++ out.drop p) := by
  have hd : ∀ x ∈ out.drop p, F.f7 < x.f7 := fun x hx => by
    have hpl : p < out.length := by
      rcases Nat.lt_or_ge p out.length with h | h
      · exact h
      · rw [List.drop_eq_nil_of_le h] at hx; cases hx
    have h3 := h2 hpl
    rw [List.drop_eq_getElem_cons hpl] at hx
    have h4 : Srt kE (out.drop p) := Stab.srt_drop kE hs p
    rw [List.drop_eq_getElem_cons hpl] at h4
    simp only [List.getD, List.getElem?_eq_getElem hpl, Option.getD_some] at h3
    rcases List.mem_cons.1 hx with rfl | hx
    · exact h3
    · have := (List.pairwise_cons.1 h4).1 x hx
      simp only [kE] at this
      omega
  refine ⟨?_, ?_⟩
  · refine Stab.srt_app kE (Stab.srt_app kE (Stab.srt_take kE hs p) (List.pairwise_singleton _ _) (fun x hx y hy => ?_)) (Stab.srt_drop kE hs p) (fun x hx y hy => ?_)
    · obtain rfl := List.mem_singleton.1 hy
      exact h1 x hx
    · rcases List.mem_append.1 hx with hx | hx
      · exact Stab.srt_split kE hs p x hx y hy
      · obtain rfl := List.mem_singleton.1 hx
        have := hd y hy
        simp only [kE]
        omega
  · have h3 := Stab.Same.comm kE (out.drop p) [F] (fun y hy x hx => by
      obtain rfl := List.mem_singleton.1 hx
      have := hd y hy
      simp only [kE]
      omega)
    have h4 := Stab.Same.app kE (Stab.Same.refl kE (out.take p)) h3
    rw [← List.append_assoc, List.take_append_drop, ← List.append_assoc] at h4
    exact h4
theorem main_go (l : List S89) (hl : l.length ≤ 1048576) (M : Nat) (hM : 1048580 ≤ M) (d : Nat) : ∀ (i : Nat) (out : List S89), l.length - i = d → i ≤ l.length → Srt kE out → out.length + d ≤ 1048576 →
    ∃ R, Srt kE R ∧ Same kE (out ++ l.drop i) R ∧ ∀ k, d * M + 1 ≤ k → spec_InTime.l0 k out l (l.length : Int) (i : Int) = some R := by
  induction d with
  | zero =>
    intro i out hd hi hs ho
    have hnil : l.drop i = [] := List.drop_eq_nil_of_le (by omega)
    refine ⟨out, hs, by rw [hnil, List.append_nil]; exact Stab.Same.refl kE _, fun k hk => ?_⟩
    obtain ⟨k, rfl⟩ : ∃ m, k = m + 1 := ⟨k - 1, by omega⟩
    simp only [spec_InTime.l0]
    rw [if_neg (by omega)]
  | succ d ih =>
    intro i out hd hi hs ho
    obtain ⟨F, hF⟩ : ∃ F, F = l.getD i z89 := ⟨_, rfl⟩
    have hdr : l.drop i = F :: l.drop (i + 1) := by
      rw [hF, List.drop_eq_getElem_cons (by omega)]
      simp [List.getD, List.getElem?_eq_getElem (show i < l.length by omega)]
    obtain ⟨p, h1, h2, h3, h4, h5⟩ := at_go F l (l.length : Int) (i : Int) out (by omega) out.length 0 (by omega) (Nat.zero_le _) (fun x hx => by simp at hx)
    obtain ⟨s1, s2⟩ := put_srt F out hs p h2 h3 h4
    obtain ⟨R, r1, r2, r3⟩ := ih (i + 1) (out.take p ++ [F] ++ out.drop p) (by omega) (by omega) s1 (by simp; omega)
    refine ⟨R, r1, ?_, fun k hk => ?_⟩
    · rw [hdr]
      have c := Stab.Same.app kE s2 (Stab.Same.refl kE (l.drop (i + 1)))
      refine Stab.Same.trans kE (l' := out.take p ++ [F] ++ out.drop p ++ l.drop (i + 1)) ?_ r2
      rwa [List.append_assoc out, List.singleton_append] at c
    · rw [Nat.succ_mul] at hk
      obtain ⟨k, rfl⟩ : ∃ m, k = m + 1 := ⟨k - 1, by omega⟩
      have hk1 : d * M + M ≤ k := by omega
      simp only [spec_InTime.l0]
      rw [if_pos (by omega), if_pos (by omega), if_pos (by omega), rdT89_nat, ← hF]
      obtain ⟨k', h6, h7⟩ := h5 (k - out.length - 1)
      rw [show k - out.length - 1 + out.length + 1 = k by omega] at h7
      have h7' : spec_InTime.l1 k out 0 l (l.length : Int) (i : Int) F.f0 F.f1 F.f2 F.f3 F.f4 F.f5 F.f6 F.f7 = _ := h7
      rw [h7']
      have hk2 : d * M + 2 ≤ k' := by omega
      clear hk hk1 h6
      obtain ⟨k', rfl⟩ : ∃ m, k' = m + 1 := ⟨k' - 1, by omega⟩
      have hk3 : d * M + 1 ≤ k' := by omega
      simp only [spec_InTime.j2, Option.bind_some]
      have e1 : (out.take p).length = p := by rw [List.length_take]; omega
      have e2 : (out.drop p).length = out.length - p := List.length_drop
      rw [if_pos (by omega), if_pos (by omega), Int.toNat_natCast, if_pos (by rw [List.length_nil, e2]; omega), if_pos (by rw [e1]; omega), if_pos (by simp only [List.length_append, List.length_singleton, List.length_nil, List.nil_append, e1, e2]; omega), w64 (by omega) (by omega), show (i : Int) + 1 = ((i + 1 : Nat) : Int) by omega, List.nil_append]
      refine Eq.trans (congrArg (fun o => spec_InTime.l0 k' o l (l.length : Int) ((i + 1 : Nat) : Int)) ?_) (r3 k' hk3)
      rfl
theorem InTime_both (l : List S89) (hl : l.length ≤ 1048576) : ∃ r, r.length = l.length ∧ (∀ k, 1099600000000 ≤ k → spec_InTime.f k l = some r) ∧ impl_InTime.f l = some r := by
  obtain ⟨R, h1, h2, h3⟩ := main_go l hl 1048580 (Nat.le_refl _) l.length 0 [] (by omega) (Nat.zero_le _) List.Pairwise.nil (by simpa using hl)
  have h2' : Same kE l R := by simpa using h2
  have hlt : ∀ x y : S89, ltOf cmpEnded x y = decide (kE x < kE y) := fun x y => by
    unfold ltOf cmpEnded kE
    by_cases g : x.f7 < y.f7
    · rw [if_pos g]; simp [g]
    · rw [if_neg g]
      by_cases g2 : y.f7 < x.f7
      · rw [if_pos g2]; simp [g]
      · rw [if_neg g2]; simp [g]
  obtain ⟨s1, s2⟩ := Stab.stab_done kE (ltOf cmpEnded) hlt l.toArray
  refine ⟨R, h2'.length kE, fun k hk => ?_, ?_⟩
  · unfold spec_InTime.f
    exact h3 k (by omega)
  · unfold impl_InTime.f
    rw [if_pos (by rw [List.length_nil]; omega)]
    refine congrArg some ?_
    refine Stab.unique kE R _ h1 s1 (Stab.Same.trans kE (Stab.Same.symm kE h2') ?_)
    simpa using s2


theorem FnExactInTime : laws_FnExactInTime.Pure := by
  intro l ⟨hm, _⟩
  by_cases hl : l.length ≤ 1048576
  · obtain ⟨K, hK⟩ : ∃ K : Nat, 1099600000010 ≤ K := ⟨1099600000010, Nat.le_refl _⟩
    refine ⟨K + 2, ?_⟩
    obtain ⟨r, hr, h1, h2⟩ := InTime_both (l.map cv) (by simpa using hl)
    rw [List.length_map] at hr
    have hsz : laws_szFactS.f l 1048576 = some (1048576 - (l.length : Int)) := by
      unfold laws_szFactS.f
      rw [w64 (by omega) (by omega), if_neg (by omega)]
    have n1 : ¬ (1048576 - (l.length : Int)) < 0 := by omega
    have n2 : ∀ n : Nat, ((1 : Int) + 8 * (n : Int) < 0) = False := fun n => by simp only [eq_iff_iff, iff_false]; omega
    have hlm : (l.map cv).length = l.length := List.length_map ..
    unfold laws_FnExactInTime.f
    rw [hsz, Option.bind_some, if_neg n1]
    simp (disch := (first | omega | (rw [hlm]; omega))) only [Option.bind_some, toFactS, h1, h2, eqFactS, markFactS, heldFactS, n2, if_true, if_false, reduceIte, Bool.false_eq_true, Bool.not_true]
    simp (disch := (first | omega | (rw [hlm]; omega))) only [laws_FnExactInTime.j0, Option.bind_some, toFactS, h1, h2, eqFactS, markFactS, heldFactS, n2, if_true, if_false, reduceIte, Bool.false_eq_true, Bool.not_true]
  · refine ⟨0, ?_⟩
    have hsz : laws_szFactS.f l 1048576 = some (-1) := by
      have hmx : l.length ≤ 9223372036854775807 := hm
      unfold laws_szFactS.f
      rw [w64 (by omega) (by omega), if_pos (by omega)]
    unfold laws_FnExactInTime.f
    rw [hsz, Option.bind_some, if_pos (by omega)]

end Go.Proofs.Ytgghglocfdcegaa.Pure
