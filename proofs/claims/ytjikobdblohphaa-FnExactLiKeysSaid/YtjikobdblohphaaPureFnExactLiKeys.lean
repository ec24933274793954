/- The law FnExactLiKeys answers true whatever its arguments hold: the program's function and the reference's come to the same, and no list of an answer is shared. No condition. -/
import Derived.Test.YtjikobdblohphaaPFnExactLiKeysx3
namespace Go.Proofs.Ytjikobdblohphaa.Pure
open Go.RowKit Go.Proofs.Ytjikobdblohphaa.PFnExactLiKeys Go.Proofs.YtjikobdblohphaaW.PrintWords Go.Proofs.YtjikobdblohphaaW.PrintLast
set_option linter.unusedSimpArgs false
set_option linter.unusedVariables false

/-! Small facts. -/
theorem w64 {x : Int} (h0 : -9223372036854775808 ≤ x) (h1 : x ≤ 9223372036854775807) : wrap64 x = x := by unfold wrap64; omega
theorem rd_nat (l : List Int) (j : Nat) : rd l (j : Int) = l.getD j 0 := by simp [rd]
/-- The numbers from m on, n of them. -/
def marked (m : Int) (n : Nat) : List Int := (List.range n).map fun (i : Nat) => m + (i : Int)
theorem marked_len (m : Int) (n : Nat) : (marked m n).length = n := by simp [marked]
theorem marked_get (m : Int) (n j : Nat) (h : j < n) : (marked m n).getD j 0 = m + j := by simp [marked, List.getD, h]
theorem neg1 (n : Nat) : ((1 : Int) + (n : Int) < 0) = False := by simp only [eq_iff_iff, iff_false]; omega
theorem neg0 : ((-1 : Int) < 0) = True := by simp
theorem i64r {n : Int} (h : (Lit.int .i64 n).wf = true) : -9223372036854775808 ≤ n ∧ n ≤ 9223372036854775807 := by
  have e1 : IntKind.i64.min = -9223372036854775808 := by decide
  have e2 : IntKind.i64.max = 9223372036854775807 := by decide
  simp only [Lit.wf, Bool.and_eq_true, decide_eq_true_eq, e1, e2] at h
  exact h

theorem within (a lo hi : Int) : impl_within.f a lo hi = some (decide (lo ≤ a ∧ a ≤ hi)) := by
  unfold impl_within.f
  by_cases h : a ≥ lo
  · rw [if_pos h]
    have h' : lo ≤ a := h
    simp [h']
  · rw [if_neg h]
    have h' : ¬ lo ≤ a := h
    simp [h']

/-! Lists of numbers: copied, compared, marked, held. -/
theorem toIntS_go (x0 : List Int) (hx : x0.length ≤ 140737488355328) (d : Nat) : ∀ (k j : Nat) (x3 : List Int), x3.length = x0.length → x0.length - j = d → j ≤ x0.length → d < k → (∀ i, i < j → x3[i]? = x0[i]?) → laws_toIntS.l0 k x0 x3 (j : Int) = some x0 := by
  induction d with
  | zero =>
    intro k j x3 hl hd hj hk he
    obtain ⟨k, rfl⟩ : ∃ m, k = m + 1 := ⟨k - 1, by omega⟩
    simp only [laws_toIntS.l0]
    rw [if_neg (by omega)]
    refine congrArg some (List.ext_getElem? fun i => ?_)
    by_cases hi : i < j
    · exact he i hi
    · rw [List.getElem?_eq_none (by omega), List.getElem?_eq_none (by omega)]
  | succ d ih =>
    intro k j x3 hl hd hj hk he
    obtain ⟨k, rfl⟩ : ∃ m, k = m + 1 := ⟨k - 1, by omega⟩
    simp only [laws_toIntS.l0]
    rw [if_pos (by omega), if_pos (by omega), if_pos (by omega), w64 (by omega) (by omega)]
    refine ih k (j + 1) _ (by simpa using hl) (by omega) (by omega) (by omega) ?_
    intro i hi
    rw [rd_nat, Int.toNat_natCast, List.getElem?_set]
    by_cases hij : j = i
    · subst hij
      rw [if_pos rfl, if_pos (by omega), List.getElem?_eq_getElem (by omega)]
      simp [List.getD, List.getElem?_eq_getElem (show j < x0.length by omega)]
    · rw [if_neg hij]
      exact he i (by omega)
theorem toIntS (k : Nat) (l : List Int) (hl : l.length ≤ 1048576) (hk : l.length < k) : laws_toIntS.f k l = some l := by
  unfold laws_toIntS.f
  rw [if_pos (by omega), if_pos (by omega)]
  exact toIntS_go l (by omega) l.length k 0 _ (by simp) (by omega) (by omega) (by omega) (fun i hi => absurd hi (by omega))
theorem eqIntS_go (x : List Int) (hx : x.length ≤ 140737488355328) (d : Nat) : ∀ (k j : Nat), x.length - j = d → j ≤ x.length → d < k → laws_eqIntS.l0 k x x (j : Int) = some true := by
  induction d with
  | zero =>
    intro k j hd hj hk
    obtain ⟨k, rfl⟩ : ∃ m, k = m + 1 := ⟨k - 1, by omega⟩
    simp only [laws_eqIntS.l0]
    rw [if_neg (by omega)]
  | succ d ih =>
    intro k j hd hj hk
    obtain ⟨k, rfl⟩ : ∃ m, k = m + 1 := ⟨k - 1, by omega⟩
    simp only [laws_eqIntS.l0]
    rw [if_pos (by omega), if_pos (by omega), if_pos (by omega), if_pos trivial, w64 (by omega) (by omega)]
    exact ih k (j + 1) (by omega) (by omega) (by omega)
theorem eqIntS (k : Nat) (l : List Int) (hl : l.length ≤ 140737488355328) (hk : l.length < k) : laws_eqIntS.f k l l = some true := by
  unfold laws_eqIntS.f
  rw [if_pos rfl]
  exact eqIntS_go l hl l.length k 0 (by omega) (by omega) hk

theorem markIntS_go (n : Nat) (hn : n ≤ 140737488355328) (m : Int) (hm0 : 0 ≤ m) (hm : m + n ≤ 140737488355328) (d : Nat) : ∀ (k j : Nat) (x0 : List Int), x0.length = n → n - j = d → j ≤ n → d < k → (∀ i, i < j → x0[i]? = some (m + i)) →
    laws_markIntS.l0 k x0 (m + j) (j : Int) = some (m + n, marked m n) := by
  induction d with
  | zero =>
    intro k j x0 hl hd hj hk he
    obtain ⟨k, rfl⟩ : ∃ m, k = m + 1 := ⟨k - 1, by omega⟩
    simp only [laws_markIntS.l0]
    rw [if_neg (by omega)]
    obtain rfl : j = n := by omega
    refine congrArg some (Prod.ext rfl (List.ext_getElem? fun i => ?_))
    show x0[i]? = (marked m j)[i]?
    by_cases hi : i < j
    · rw [he i hi]; simp [marked, hi]
    · rw [List.getElem?_eq_none (by omega), List.getElem?_eq_none (by rw [marked_len]; omega)]
  | succ d ih =>
    intro k j x0 hl hd hj hk he
    obtain ⟨k, rfl⟩ : ∃ m, k = m + 1 := ⟨k - 1, by omega⟩
    simp only [laws_markIntS.l0]
    rw [if_pos (by omega), if_pos (by omega), w64 (by omega) (by omega), w64 (by omega) (by omega), show m + (j : Int) + 1 = m + ((j + 1 : Nat) : Int) by omega]
    refine ih k (j + 1) _ (by simpa using hl) (by omega) (by omega) (by omega) ?_
    intro i hi
    rw [Int.toNat_natCast, List.getElem?_set]
    by_cases hij : j = i
    · subst hij
      rw [if_pos rfl, if_pos (by omega)]
    · rw [if_neg hij]
      exact he i (by omega)
theorem markIntS (k : Nat) (l : List Int) (m : Int) (hm0 : 0 ≤ m) (hm : m + l.length ≤ 140737488355328) (hk : l.length < k) : laws_markIntS.f k l m = some (m + l.length, marked m l.length) := by
  unfold laws_markIntS.f
  have := markIntS_go l.length (by omega) m hm0 hm l.length k 0 l rfl (by omega) (by omega) hk (fun i hi => absurd hi (by omega))
  simpa using this
theorem heldIntS_go (n : Nat) (m : Int) (hm0 : 0 ≤ m) (hm : m + n ≤ 140737488355328) (d : Nat) : ∀ (k j : Nat), n - j = d → j ≤ n → d < k → laws_heldIntS.l0 k (marked m n) (m + j) (j : Int) = some (m + n) := by
  induction d with
  | zero =>
    intro k j hd hj hk
    obtain ⟨k, rfl⟩ : ∃ m, k = m + 1 := ⟨k - 1, by omega⟩
    simp only [laws_heldIntS.l0, marked_len]
    rw [if_neg (by omega)]
    obtain rfl : j = n := by omega
    rfl
  | succ d ih =>
    intro k j hd hj hk
    obtain ⟨k, rfl⟩ : ∃ m, k = m + 1 := ⟨k - 1, by omega⟩
    simp only [laws_heldIntS.l0, marked_len]
    rw [if_pos (by omega), if_pos (by omega), if_pos (by rw [rd_nat]; exact marked_get m n j (by omega)), w64 (by omega) (by omega), w64 (by omega) (by omega), show m + (j : Int) + 1 = m + ((j + 1 : Nat) : Int) by omega]
    exact ih k (j + 1) (by omega) (by omega) (by omega)
theorem heldIntS (k : Nat) (n : Nat) (m : Int) (hm0 : 0 ≤ m) (hm : m + n ≤ 140737488355328) (hk : n < k) : laws_heldIntS.f k (marked m n) m = some (m + n) := by
  unfold laws_heldIntS.f
  have := heldIntS_go n m hm0 hm n k 0 (by omega) (by omega) hk
  simpa using this

theorem szMem_big (l : List Int) (hl : l.length ≤ maxLen) (h : 1048576 < l.length) : laws_szMem.f l 1048576 = some (-1) := by
  simp only [maxLen] at hl
  unfold laws_szMem.f laws_szIntS.f
  rw [w64 (by omega) (by omega), if_pos (by omega)]
  rfl
theorem szMem_small (l : List Int) (h : l.length ≤ 1048576) : laws_szMem.f l 1048576 = some (1048576 - (l.length : Int)) := by
  unfold laws_szMem.f laws_szIntS.f
  rw [w64 (by omega) (by omega), if_neg (by omega)]
  simp only [Option.bind_some]
  rw [if_neg (by omega)]
theorem toMem (k : Nat) (l : List Int) (hl : l.length ≤ 1048576) (hk : l.length < k) : laws_toMem.f k l = some l := by
  unfold laws_toMem.f
  rw [toIntS k l hl hk]; rfl
theorem eqMem (k : Nat) (l : List Int) (hl : l.length ≤ 1048576) (hk : l.length < k) : laws_eqMem.f k l l = some true := by
  unfold laws_eqMem.f
  rw [eqIntS k l (by omega) hk]; rfl

theorem markMem (k : Nat) (l : List Int) (hl : l.length ≤ 1048576) (hk : l.length < k) : laws_markMem.f k l 1 = some (1 + (l.length : Int), marked 1 l.length) := by
  unfold laws_markMem.f
  rw [markIntS k l 1 (by omega) (by omega) hk]; rfl

/-! The links of a list. -/
theorem half (c : Int) (h0 : 0 ≤ c) (h1 : c ≤ 9223372036854775807) : wrap64 (Int.tdiv c 2) = c / 2 := by
  rw [Int.tdiv_eq_ediv_of_nonneg h0, w64 (by omega) (by omega)]
/-- The node that a word tells, as the code computes it. -/
def nd (c : Int) : Int := wrap64 (wrap64 (Int.tdiv c 2) - 1)
theorem nd_pos (c : Int) (h0 : 0 ≤ c) (h1 : c ≤ 9223372036854775807) : nd c = c / 2 - 1 := by
  unfold nd; rw [half c h0 h1, w64 (by omega) (by omega)]
def lB (n c : Int) : Bool := decide (0 ≤ c ∧ c / 2 ≤ n)
def gB (c : Int) : Bool := decide (0 ≤ nd c)
theorem l05Link (n c : Int) (h1 : c ≤ 9223372036854775807) : spec_l05Link.f n c = some (lB n c) := by
  unfold spec_l05Link.f lB
  by_cases h : c ≥ 0
  · have h' : 0 ≤ c := h
    rw [if_pos h, half c h' h1]; simp [h']
  · have h' : ¬ 0 ≤ c := h
    rw [if_neg h]; simp [h']
theorem l05There (n c : Int) (h1 : c ≤ 9223372036854775807) : spec_l05There.f n c = some (lB n c && gB c) := by
  unfold spec_l05There.f
  rw [l05Link n c h1]
  simp only [Option.bind_some]
  by_cases h : lB n c = true
  · rw [if_pos h, h]
    simp only [lB, decide_eq_true_eq] at h
    rw [half c h.1 h1]
    refine congrArg some ?_
    unfold gB
    rw [nd_pos c h.1 h1, Bool.true_and, Bool.eq_iff_iff]
    simp only [decide_eq_true_eq]; omega
  · rw [if_neg h]; simp at h; simp [h]
theorem isLink (n c : Int) (hn : 1 ≤ n ∧ n ≤ 16) (h1 : c ≤ 9223372036854775807) : impl_isLink.f c n = some (lB n c) := by
  unfold impl_isLink.f lB impl_nodeOf.f
  by_cases h : c ≥ 0
  · have h' : 0 ≤ c := h
    rw [if_pos h, half c h' h1, w64 (by omega) (by omega)]
    simp only [Option.bind_some, h', true_and]
    refine congrArg some ?_
    rw [Bool.eq_iff_iff]; simp only [decide_eq_true_eq]; omega
  · have h' : ¬ 0 ≤ c := h
    rw [if_neg h]; simp [h']
theorem lB_pos (n c : Int) (h : lB n c = true) : 0 ≤ c := by
  simp only [lB, decide_eq_true_eq] at h; exact h.1

/-! Whether a number is in a list. -/
theorem getD_drop (l : List Int) (j : Nat) (h : j < l.length) : l.drop j = l.getD j 0 :: l.drop (j + 1) := by
  rw [List.drop_eq_getElem_cons h]; simp [List.getD, h]
theorem l03Has_go (x : Int) (l : List Int) (hl : l.length ≤ 140737488355328) (d : Nat) : ∀ (k j : Nat), l.length - j = d → j ≤ l.length → d < k → spec_l03Has.l0 k x l (l.length : Int) (j : Int) = some (decide (x ∈ l.drop j)) := by
  induction d with
  | zero =>
    intro k j hd hj hk
    obtain ⟨k, rfl⟩ : ∃ m, k = m + 1 := ⟨k - 1, by omega⟩
    simp only [spec_l03Has.l0]
    rw [if_neg (by omega), List.drop_eq_nil_of_le (by omega)]
    simp
  | succ d ih =>
    intro k j hd hj hk
    obtain ⟨k, rfl⟩ : ∃ m, k = m + 1 := ⟨k - 1, by omega⟩
    simp only [spec_l03Has.l0]
    rw [if_pos (by omega), if_pos (by omega), if_pos (by omega), rd_nat, w64 (by omega) (by omega), getD_drop l j (by omega)]
    have := ih k (j + 1) (by omega) (by omega) (by omega)
    by_cases h : l.getD j 0 = x
    · rw [if_pos h]; refine congrArg some (Eq.symm (decide_eq_true ?_)); rw [List.mem_cons]; exact Or.inl h.symm
    · rw [if_neg h, show (j : Int) + 1 = ((j + 1 : Nat) : Int) by omega, this]
      refine congrArg some ?_
      rw [Bool.eq_iff_iff]
      simp only [decide_eq_true_eq, List.mem_cons]
      exact ⟨Or.inr, fun hh => hh.resolve_left (fun e => h e.symm)⟩
theorem l03Has (k : Nat) (x : Int) (l : List Int) (hl : l.length ≤ 1048576) (hk : l.length < k) : spec_l03Has.f k l x = some (decide (x ∈ l)) := by
  unfold spec_l03Has.f
  have := l03Has_go x l (by omega) l.length k 0 (by omega) (by omega) hk
  simpa using this

/-! LiKeys: both follow the links. -/
theorem rd_le (l : List Int) (B : Int) (hB : 0 ≤ B) (h : ∀ y ∈ l, y ≤ B) (i : Int) : rd l i ≤ B := by
  unfold rd
  rw [List.getD_eq_getElem?_getD]
  cases e : l[i.toNat]? with
  | none => simpa using hB
  | some y => simpa using h y (List.mem_of_getElem? e)
theorem spec_off (k : Nat) (n : Int) (out sp : List Int) (w : Int) (l : List Int) (hw : w ≤ 9223372036854775807) (h : lB n w = false) : spec_LiKeys.l0 (k + 1) n out sp w l = some [] := by
  simp only [spec_LiKeys.l0]
  rw [l05There n w hw, l05Link n w hw, h]; rfl
theorem impl_off (k : Nat) (n : Int) (hn : 1 ≤ n ∧ n ≤ 16) (sn : List Bool) (out : List Int) (w : Int) (l : List Int) (hw : w ≤ 9223372036854775807) (h : lB n w = false) : impl_LiKeys.l0 (k + 1) n sn out w l = some [] := by
  simp only [impl_LiKeys.l0]
  rw [isLink n w hn hw, h]; rfl
theorem lB_neg (n w : Int) (h : w < 0) : lB n w = false := by
  unfold lB; rw [decide_eq_false (by omega)]
theorem keys_go (n : Int) (hn : 1 ≤ n ∧ n ≤ 16) (l : List Int) (hlen : (l.length : Int) = 1 + 2 * n) (hl : ∀ y ∈ l, y ≤ 9223372036854775807) (d : Nat) : ∀ (sn : List Bool) (sp out : List Int) (w : Int), sn.length = 16 → sn.count false = d → (∀ i : Nat, i < 16 → (sn.getD i false = true ↔ (i : Int) ∈ sp)) → sp.length + d = 16 → out.length ≤ sp.length → w ≤ 9223372036854775807 →
    ∃ r : List Int, r.length ≤ 16 ∧ ∀ k, 40 + d < k → spec_LiKeys.l0 k n out sp w l = some r ∧ impl_LiKeys.l0 k n sn out w l = some r := by
  induction d with
  | zero =>
    intro sn sp out w h1 h2 h3 h4 h5 hw
    cases L : lB n w with
    | false =>
      refine ⟨[], by simp, fun k hk => ?_⟩
      obtain ⟨k, rfl⟩ : ∃ e, k = e + 1 := ⟨k - 1, by omega⟩
      exact ⟨spec_off k n out sp w l hw L, impl_off k n hn sn out w l hw L⟩
    | true =>
      have h0 := lB_pos n w L
      have L' := L
      simp only [lB, decide_eq_true_eq] at L'
      cases G : gB w with
      | false =>
        refine ⟨out, by omega, fun k hk => ?_⟩
        obtain ⟨k, rfl⟩ : ∃ e, k = e + 1 := ⟨k - 1, by omega⟩
        have g : nd w < 0 := by unfold gB at G; simpa using G
        refine ⟨?_, ?_⟩
        · simp only [spec_LiKeys.l0]
          rw [l05There n w hw, l05Link n w hw, L, G]; rfl
        · simp only [impl_LiKeys.l0]
          rw [isLink n w hn hw, L, show impl_nodeOf.f w = some (nd w) from rfl]
          simp only [Option.bind_some, if_true]
          rw [if_pos g]
      | true =>
        have g : 0 ≤ nd w := by unfold gB at G; simpa using G
        have e := nd_pos w h0 hw
        obtain ⟨i, hi⟩ : ∃ i : Nat, nd w = (i : Int) := ⟨(nd w).toNat, by omega⟩
        have hi16 : i < 16 := by omega
        have hs : sn.getD i false = true := by
          cases q : sn.getD i false with
          | true => rfl
          | false =>
            exfalso
            have hm : false ∈ sn := by
              rw [List.getD_eq_getElem?_getD, List.getElem?_eq_getElem (by omega)] at q
              simp only [Option.getD_some] at q
              rw [← q]; exact List.getElem_mem _
            have := List.count_pos_iff.2 hm
            omega
        have hin := (h3 i hi16).1 hs
        refine ⟨[], by simp, fun k hk => ?_⟩
        obtain ⟨k, rfl⟩ : ∃ e, k = e + 1 := ⟨k - 1, by omega⟩
        refine ⟨?_, ?_⟩
        · simp only [spec_LiKeys.l0]
          rw [l05There n w hw, L, G, show spec_l05Node.f w = some (nd w) from rfl]
          simp only [Option.bind_some, Bool.and_self, if_true]
          rw [l03Has k _ sp (by omega) (by omega), hi, decide_eq_true hin]
          rfl
        · simp only [impl_LiKeys.l0]
          rw [isLink n w hn hw, L, show impl_nodeOf.f w = some (nd w) from rfl]
          simp only [Option.bind_some, if_true]
          rw [if_neg (by omega), if_pos (by omega), hi, Int.toNat_natCast, hs]
          rfl
  | succ d ih =>
    intro sn sp out w h1 h2 h3 h4 h5 hw
    cases L : lB n w with
    | false =>
      refine ⟨[], by simp, fun k hk => ?_⟩
      obtain ⟨k, rfl⟩ : ∃ e, k = e + 1 := ⟨k - 1, by omega⟩
      exact ⟨spec_off k n out sp w l hw L, impl_off k n hn sn out w l hw L⟩
    | true =>
      have h0 := lB_pos n w L
      have L' := L
      simp only [lB, decide_eq_true_eq] at L'
      cases G : gB w with
      | false =>
        refine ⟨out, by omega, fun k hk => ?_⟩
        obtain ⟨k, rfl⟩ : ∃ e, k = e + 1 := ⟨k - 1, by omega⟩
        have g : nd w < 0 := by unfold gB at G; simpa using G
        refine ⟨?_, ?_⟩
        · simp only [spec_LiKeys.l0]
          rw [l05There n w hw, l05Link n w hw, L, G]; rfl
        · simp only [impl_LiKeys.l0]
          rw [isLink n w hn hw, L, show impl_nodeOf.f w = some (nd w) from rfl]
          simp only [Option.bind_some, if_true]
          rw [if_pos g]
      | true =>
        have g : 0 ≤ nd w := by unfold gB at G; simpa using G
        have e := nd_pos w h0 hw
        obtain ⟨i, hi⟩ : ∃ i : Nat, nd w = (i : Int) := ⟨(nd w).toNat, by omega⟩
        have hi16 : i < 16 := by omega
        by_cases hin : (i : Int) ∈ sp
        · have hs := (h3 i hi16).2 hin
          refine ⟨[], by simp, fun k hk => ?_⟩
          obtain ⟨k, rfl⟩ : ∃ e, k = e + 1 := ⟨k - 1, by omega⟩
          refine ⟨?_, ?_⟩
          · simp only [spec_LiKeys.l0]
            rw [l05There n w hw, L, G, show spec_l05Node.f w = some (nd w) from rfl]
            simp only [Option.bind_some, Bool.and_self, if_true]
            rw [l03Has k _ sp (by omega) (by omega), hi, decide_eq_true hin]
            rfl
          · simp only [impl_LiKeys.l0]
            rw [isLink n w hn hw, L, show impl_nodeOf.f w = some (nd w) from rfl]
            simp only [Option.bind_some, if_true]
            rw [if_neg (by omega), if_pos (by omega), hi, Int.toNat_natCast, hs]
            rfl
        · have hs : ¬ sn.getD i false = true := fun z => hin ((h3 i hi16).1 z)
          have hsi : sn[i]'(by omega) = false := by
            rw [List.getD_eq_getElem?_getD, List.getElem?_eq_getElem (by omega)] at hs
            simpa using hs
          have c1 : wrap64 (2 + wrap64 (2 * (i : Int))) = 2 + 2 * (i : Int) := by rw [w64 (x := 2 * (i : Int)) (by omega) (by omega), w64 (by omega) (by omega)]
          have c2 : wrap64 (1 + wrap64 (2 * (i : Int))) = 1 + 2 * (i : Int) := by rw [w64 (x := 2 * (i : Int)) (by omega) (by omega), w64 (by omega) (by omega)]
          generalize hv : rd l (2 + 2 * (i : Int)) = v
          generalize hu : rd l (1 + 2 * (i : Int)) = u
          have hv2 : v ≤ 9223372036854775807 := by rw [← hv]; exact rd_le l _ (by omega) hl _
          have n1 : (sn.set i true).length = 16 := by rw [List.length_set]; exact h1
          have n2 : (sn.set i true).count false = d := by
            rw [List.count_set (by omega), hsi, h2]; simp
          have n3 : ∀ j : Nat, j < 16 → ((sn.set i true).getD j false = true ↔ (j : Int) ∈ sp ++ [(i : Int)]) := by
            intro j hj
            rw [List.mem_append, List.mem_singleton, List.getD_eq_getElem?_getD]
            by_cases hji : j = i
            · subst hji
              rw [List.getElem?_set_self (by omega)]; simp
            · rw [List.getElem?_set_ne (by omega), ← List.getD_eq_getElem?_getD, h3 j hj]
              constructor
              · exact Or.inl
              · rintro (z | z)
                · exact z
                · exact absurd (by omega) hji
          have n4 : (sp ++ [(i : Int)]).length + d = 16 := by rw [List.length_append]; simp; omega
          have g0 : sp.length < 17592186044416 := by omega
          have g1 : 0 ≤ 2 + 2 * (i : Int) := by omega
          have g2 : 2 + 2 * (i : Int) < (l.length : Int) := by omega
          have g3 : 0 ≤ 1 + 2 * (i : Int) := by omega
          have g4 : 1 + 2 * (i : Int) < (l.length : Int) := by omega
          have g5 : out.length < 17592186044416 := by omega
          have S : ∀ k, 40 + d + 1 < k + 1 → ∀ r, (∀ k', k' = k → (if v ≥ 0 then (if Int.tmod v 2 = 0 then spec_LiKeys.l0 k' n (out ++ [u]) (sp ++ [(i : Int)]) v l else spec_LiKeys.l0 k' n out (sp ++ [(i : Int)]) v l) else spec_LiKeys.l0 k' n out (sp ++ [(i : Int)]) v l) = some r) → spec_LiKeys.l0 (k + 1) n out sp w l = some r := by
            intro k hk r hr
            have hr := hr k rfl
            rw [← hr]
            simp only [spec_LiKeys.l0]
            rw [l05There n w hw, L, G, show spec_l05Node.f w = some (nd w) from rfl]
            simp only [Option.bind_some, Bool.and_self, if_true]
            rw [l03Has k _ sp (by omega) (by omega), hi, decide_eq_false hin]
            simp only [Option.bind_some, Bool.false_eq_true, if_false]
            rw [c1, c2, hv, hu, if_pos g0, if_pos g1, if_pos g2, if_pos g3, if_pos g4, if_pos g5]
          have I : ∀ k, 40 + d + 1 < k + 1 → impl_LiKeys.l0 (k + 1) n sn out w l = (if (Int.tmod v 2 != 0) = true then impl_LiKeys.l0 k n (sn.set i true) out v l else impl_LiKeys.l0 k n (sn.set i true) (out ++ [u]) v l) := by
            intro k hk
            rw [impl_LiKeys.l0]
            rw [isLink n w hn hw, L, show impl_nodeOf.f w = some (nd w) from rfl]
            simp only [Option.bind_some, if_true, impl_linkCell.f, impl_keyCell.f, impl_isMarked.f]
            rw [if_neg (by omega), if_pos (by omega), hi, Int.toNat_natCast, if_neg hs, c1, c2, hv, hu, if_pos g1, if_pos g2, if_pos g3, if_pos g4, if_pos g5]
          by_cases v0 : v < 0
          · refine ⟨[], by simp, fun k hk => ?_⟩
            obtain ⟨k, rfl⟩ : ∃ e, k = e + 1 + 1 := ⟨k - 2, by omega⟩
            refine ⟨S (k + 1) (by omega) _ (fun k' hk' => ?_), ?_⟩
            · subst hk'
              rw [if_neg (by omega)]
              exact spec_off k n out _ v l hv2 (lB_neg n v v0)
            · rw [I (k + 1) (by omega)]
              split
              · exact impl_off k n hn _ _ v l hv2 (lB_neg n v v0)
              · exact impl_off k n hn _ _ v l hv2 (lB_neg n v v0)
          · by_cases ev : Int.tmod v 2 = 0
            · obtain ⟨r, hr, hk2⟩ := ih (sn.set i true) (sp ++ [(i : Int)]) (out ++ [u]) v n1 n2 n3 n4 (by simp; omega) hv2
              refine ⟨r, hr, fun k hk => ?_⟩
              obtain ⟨k, rfl⟩ : ∃ e, k = e + 1 := ⟨k - 1, by omega⟩
              refine ⟨S k (by omega) _ (fun k' hk' => ?_), ?_⟩
              · subst hk'
                rw [if_pos (by omega), if_pos ev]
                exact (hk2 _ (by omega)).1
              · rw [I k (by omega), if_neg (by simp [ev])]
                exact (hk2 _ (by omega)).2
            · obtain ⟨r, hr, hk2⟩ := ih (sn.set i true) (sp ++ [(i : Int)]) out v n1 n2 n3 n4 (by simp; omega) hv2
              refine ⟨r, hr, fun k hk => ?_⟩
              obtain ⟨k, rfl⟩ : ∃ e, k = e + 1 := ⟨k - 1, by omega⟩
              refine ⟨S k (by omega) _ (fun k' hk' => ?_), ?_⟩
              · subst hk'
                rw [if_pos (by omega), if_neg ev]
                exact (hk2 _ (by omega)).1
              · rw [I k (by omega), if_pos (by simp [ev])]
                exact (hk2 _ (by omega)).2
theorem LiKeys_both (n : Int) (l : List Int) (hl : l.length ≤ 1048576) (hB : ∀ y ∈ l, y ≤ 9223372036854775807) : ∃ r : List Int, r.length ≤ 1048576 ∧ ∀ k, 100 ≤ k → spec_LiKeys.f k n l = some r ∧ impl_LiKeys.g k n l = some r := by
  have hz : spec_l03Size.f n = some (decide (1 ≤ n ∧ n ≤ 16)) := by
    unfold spec_l03Size.f
    split
    · refine congrArg some ?_; rw [decide_eq_decide]; omega
    · rw [decide_eq_false (by omega)]
  by_cases hn : 1 ≤ n ∧ n ≤ 16
  · have hw : wrap64 (1 + wrap64 (2 * n)) = 1 + 2 * n := by rw [w64 (x := 2 * n) (by omega) (by omega), w64 (by omega) (by omega)]
    by_cases he : (l.length : Int) = 1 + 2 * n
    · have hf : ∀ j : Fin 16, (List.replicate 16 false).getD j.val false = false := by decide
      obtain ⟨r, h1, h2⟩ := keys_go n hn l he hB 16 (List.replicate 16 false) [] [] (rd l 0) (by simp) (by decide) (fun i hi => by rw [hf ⟨i, hi⟩]; simp) (by simp) (by simp) (rd_le l _ (by omega) hB 0)
      refine ⟨r, by omega, fun k hk => ?_⟩
      obtain ⟨k, rfl⟩ : ∃ e, k = e + 1 := ⟨k - 1, by omega⟩
      refine ⟨?_, ?_⟩
      · unfold spec_LiKeys.f
        rw [hz, decide_eq_true hn, hw]
        simp only [Option.bind_some, if_true, spec_LiKeys.j0]
        rw [if_neg (by simp [he]), if_pos (by omega)]
        exact (h2 k (by omega)).1
      · unfold impl_LiKeys.g
        rw [within, decide_eq_true hn, hw]
        simp only [Option.bind_some, if_true]
        rw [if_pos he, if_pos (by omega)]
        exact (h2 (k + 1) (by omega)).2
    · refine ⟨[], by simp, fun k hk => ?_⟩
      obtain ⟨k, rfl⟩ : ∃ e, k = e + 1 := ⟨k - 1, by omega⟩
      refine ⟨?_, ?_⟩
      · unfold spec_LiKeys.f
        rw [hz, decide_eq_true hn, hw]
        simp only [Option.bind_some, if_true, spec_LiKeys.j0]
        rw [if_pos (by simp [he])]
      · unfold impl_LiKeys.g
        rw [within, decide_eq_true hn, hw]
        simp only [Option.bind_some, if_true]
        rw [if_neg he]
  · refine ⟨[], by simp, fun k hk => ?_⟩
    obtain ⟨k, rfl⟩ : ∃ e, k = e + 1 := ⟨k - 1, by omega⟩
    refine ⟨?_, ?_⟩
    · unfold spec_LiKeys.f
      rw [hz, decide_eq_false hn]
      simp only [Option.bind_some, Bool.false_eq_true, if_false, if_true, spec_LiKeys.j0]
    · unfold impl_LiKeys.g
      rw [within, decide_eq_false hn]
      simp only [Option.bind_some, Bool.false_eq_true, if_false]


theorem FnExactLiKeys : laws_FnExactLiKeys.Pure := by
  intro n l _ ⟨hm, hwf⟩
  by_cases hl : l.length ≤ 1048576
  · obtain ⟨r, hr, hrr⟩ := LiKeys_both n l hl (fun y hy => (i64r (hwf y hy)).2)
    have h1 : ∀ k, 100 ≤ k → spec_LiKeys.f k n l = some r := fun k hk => (hrr k hk).1
    have h2 : impl_LiKeys.f n l = some r := (hrr 100 (Nat.le_refl _)).2
    refine ⟨1048576 + 300, ?_⟩
    unfold laws_FnExactLiKeys.f
    simp (disch := omega) only [szMem_small, Option.bind_some, toMem, h1, h2, eqIntS, eqMem]
    rw [if_neg (by omega)]
    simp (disch := omega) only [laws_FnExactLiKeys.j0, Bool.not_true, toMem, h2, eqIntS, eqMem, markMem, markIntS, heldIntS, Option.bind_some, neg1, if_true, if_false, ite_self, reduceIte, Bool.false_eq_true]
  · refine ⟨0, ?_⟩
    unfold laws_FnExactLiKeys.f
    rw [szMem_big l hm (by omega)]
    simp

end Go.Proofs.Ytjikobdblohphaa.Pure
