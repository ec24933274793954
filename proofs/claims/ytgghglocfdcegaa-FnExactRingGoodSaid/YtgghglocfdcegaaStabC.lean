/- Go's slices.SortStableFunc walked, at elements of several cells and a comparison that may lay blocks: what it leaves is stab of what lay there. -/
import Derived.Test.YtgghglocfdcegaaStabB
namespace Go.Proofs.Ytgghglocfdcegaa.Stab
open Go Go.Proofs Go.Shelf Go.RowKit Go.Lib Go.Sort
variable {α : Type} [Inhabited α] {P : Program} {k : Nat}
def insRen : Ren := ⟨fun n => if n = 20 then 98 else n, fun n => if n = 22 then 60 else if n = 24 then 89 else if n = 25 then 94 else n, fun n => n⟩
theorem insLays : SlLaysF0.n20 Try.prog insRen where
  mixed := by kernel_rfl
  f20 := ⟨Try.f98.name, by decide, by kernel_rfl⟩
  t0 := Try.underlying0
  a0 := Try.isAgg0
  z0 := Try.sizeOf0
  v0 := Try.zeroValue0
  t3 := Try.underlying3
  a3 := Try.isAgg3
  z3 := Try.sizeOf3
  v3 := Try.zeroValue3
  t4 := Try.underlying4
  a4 := Try.isAgg4
  z4 := Try.sizeOf4
  v4 := Try.zeroValue4
  t22 := Try.underlying60
  a22 := Try.isAgg60
  z22 := Try.sizeOf60
  v22 := Try.zeroValue60
  t25 := Try.underlying94
  a25 := Try.isAgg94
  z25 := Try.sizeOf94
  v25 := Try.zeroValue94

theorem size_insInner (lt : α → α → Bool) (a : Nat) : ∀ (j : Nat) (d : Array α), (insInner lt a j d).size = d.size
  | 0, d => rfl
  | j + 1, d => by
    rw [insInner]
    split
    · rw [size_insInner lt a j, size_swp]
    · rfl
theorem size_insOuter (lt : α → α → Bool) (a b n : Nat) : ∀ (i : Nat) (d : Array α), b - i = n → (insOuter lt a b i d).size = d.size := by
  induction n with
  | zero => intro i d h; rw [insOuter, if_neg (by omega)]
  | succ n ih => intro i d h; rw [insOuter, if_pos (by omega), ih _ _ (by omega), size_insInner]
theorem size_insertionSort (lt : α → α → Bool) (d : Array α) (a b : Nat) : (insertionSort lt d a b).size = d.size := size_insOuter lt a b _ _ _ rfl
theorem insB_fuel (lt : α → α → Bool) (n f : Nat) : ∀ (g a : Nat) (d : Array α), n - a < f → f ≤ g → insB lt n g a d = insB lt n f a d := by
  induction f with
  | zero => intro g a d h; omega
  | succ f ih =>
    intro g a d h1 h2
    obtain ⟨g, rfl⟩ : ∃ x, g = x + 1 := ⟨g - 1, by omega⟩
    rw [insB, insB]
    by_cases h : a + 20 ≤ n
    · rw [if_pos h, if_pos h]; exact ih g _ _ (by omega) (by omega)
    · rw [if_neg h, if_neg h]
theorem mrgP_fuel (lt : α → α → Bool) (n bs f : Nat) (hb : 0 < bs) : ∀ (g a : Nat) (d : Array α), n - a < f → f ≤ g → mrgP lt n bs g a d = mrgP lt n bs f a d := by
  induction f with
  | zero => intro g a d h; omega
  | succ f ih =>
    intro g a d h1 h2
    obtain ⟨g, rfl⟩ : ∃ x, g = x + 1 := ⟨g - 1, by omega⟩
    rw [mrgP, mrgP]
    by_cases h : a + 2 * bs ≤ n
    · rw [if_pos h, if_pos h]; exact ih g _ _ (by omega) (by omega)
    · rw [if_neg h, if_neg h]
theorem mrg_fuel (lt : α → α → Bool) (n f : Nat) : ∀ (g bs : Nat) (d : Array α), 0 < bs → n - bs < f → f ≤ g → mrg lt n g bs d = mrg lt n f bs d := by
  induction f with
  | zero => intro g a d _ h; omega
  | succ f ih =>
    intro g bs d h0 h1 h2
    obtain ⟨g, rfl⟩ : ∃ x, g = x + 1 := ⟨g - 1, by omega⟩
    rw [mrg, mrg]
    by_cases h : bs < n
    · rw [if_pos h, if_pos h]; exact ih g _ _ (by omega) (by omega) (by omega)
    · rw [if_neg h, if_neg h]
theorem size_insB (lt : α → α → Bool) (n f : Nat) : ∀ (a : Nat) (d : Array α), (insB lt n f a d).size = d.size := by
  induction f with
  | zero => intro a d; rfl
  | succ f ih =>
    intro a d
    rw [insB]
    split
    · rw [ih, size_insertionSort]
    · rw [size_insertionSort]
theorem size_mrgP (lt : α → α → Bool) (n bs f : Nat) : ∀ (a : Nat) (d : Array α), (mrgP lt n bs f a d).size = d.size := by
  induction f with
  | zero => intro a d; rfl
  | succ f ih =>
    intro a d
    rw [mrgP]
    split
    · rw [ih, size_symM]
    · split
      · rw [size_symM]
      · rfl
theorem size_mrg (lt : α → α → Bool) (n f : Nat) : ∀ (bs : Nat) (d : Array α), (mrg lt n f bs d).size = d.size := by
  induction f with
  | zero => intro a d; rfl
  | succ f ih =>
    intro bs d
    rw [mrg]
    split
    · rw [ih, size_mrgP]
    · rfl

theorem ins_SW (LI : SlLaysF0.n20 P insRen) (aE : ∀ w, (isAgg 89).run P w = .ok true w) (zE : ∀ w, (Go.sizeOf 89).run P w = .ok k w) (enc : α → List Value) (w : World) (blk off cap : Nat) (D : Array α) (g : Nat) (cb : Array Value) (cf : α → α → Int) (hk : ∀ x, (enc x).length = k) (h1 : ∀ x, ∀ v ∈ enc x, v.oneCell' = true)
    (eg : ∀ args w, (callFunc g args).run P w = .ok (.enter g args) w) (hcmp : CmpLays P g cb enc k cf blk off D.size w) (hH : HoldsK enc k w blk off D) (hblk : blk < w.heap.size) (hsz : D.size < 4611686018427387904)
    (d : Array α) (os : Array Obj) (q a b : Nat) (hs : d.size = D.size) (hab : a ≤ b) (hb : b ≤ D.size) :
    Calls P 98 #[.slice (some ⟨blk, off, none⟩) D.size cap, .int .i64 a, .int .i64 b, .func (.func g) #[] cb] (SW k enc w blk off q d os) fun e w' =>
      e = .returned (.tuple #[]) ∧ ∃ n1 os1, w' = SW k enc w blk off n1 (insertionSort (ltOf cf) d a b) os1 := by
  have hon : ∀ (n m : Nat) (dk dk' : Array α) (os os' : Array Obj), dk'.size = dk.size → sortWorldK enc k (sortWorldK enc k w blk off n dk os) blk off m dk' os' = sortWorldK enc k w blk off (n + m) dk' (os ++ os') := fun n m dk dk' os os' h => grow_step_growK enc k w os os' n m blk off dk dk' hblk h
  have hHs := holdsK_sortWorldK_c enc k w blk off D d q os hH hblk hs
  have hlt : blk < (SW k enc w blk off q d os).heap.size := Nat.lt_of_lt_of_le hblk (size_sortWorldK_c enc k w blk off q d os)
  have hc2 : CmpLays P g cb enc k cf blk off d.size (SW k enc w blk off q d os) := fun m os' dk' hs' x y => by
    rw [hon q m d dk' os os' hs']
    exact hcmp _ _ dk' (hs'.trans hs) x y
  have h := AnyQ.insertionSortCmpFunc LI k aE zE enc hk h1 cf g cb blk off cap a b d (SW k enc w blk off q d os) eg hc2 hHs hlt hab (by omega) (by omega)
  rw [hs] at h
  refine Calls.mono h ?_
  rintro e w' ⟨rfl, n, os', rfl⟩
  exact ⟨rfl, _, _, hon q n d _ os os' (by rw [size_insertionSort])⟩

set_option maxHeartbeats 8000000 in
set_option maxRecDepth 1000000 in
theorem stab_calls (L : Lay P k) (LI : SlLaysF0.n20 P insRen) (enc : α → List Value) (w : World) (blk off cap : Nat) (D : Array α) (g : Nat) (cb : Array Value) (cf : α → α → Int) (hk : ∀ x, (enc x).length = k) (h1 : ∀ x, ∀ v ∈ enc x, v.oneCell' = true)
    (eg : ∀ args w, (callFunc g args).run P w = .ok (.enter g args) w) (hcmp : CmpLays P g cb enc k cf blk off D.size w) (hH : HoldsK enc k w blk off D) (hblk : blk < w.heap.size) (hsz : D.size < 1152921504606846976) :
    Calls P 93 #[.slice (some ⟨blk, off, none⟩) D.size cap, .int .i64 D.size, .func (.func g) #[] cb] w fun e w' =>
      e = .returned (.tuple #[]) ∧ ∃ n1 os1, w' = SW k enc w blk off n1 (stab (ltOf cf) D) os1 := by
  have mixed := L.mixed; have t0 := L.t0; have a0 := L.a0; have z0 := L.z0; have v0 := L.v0; have t3 := L.t3; have a3 := L.a3; have z3 := L.z3; have v3 := L.v3; have t4 := L.t4; have a4 := L.a4; have z4 := L.z4; have v4 := L.v4; have t60 := L.t60; have a60 := L.a60; have z60 := L.z60; have v60 := L.v60; have t94 := L.t94; have a94 := L.a94; have z94 := L.z94; have v94 := L.v94; have aE := L.aE; have zE := L.zE
  have u60 := run_underlying L.t60
  have hins : ∀ (d : Array α) (os : Array Obj) (q a b : Nat), d.size = D.size → a ≤ b → b ≤ D.size → _ := fun d os q a b h2 h3 h4 => ins_SW LI aE zE enc w blk off cap D g cb cf hk h1 eg hcmp hH hblk (by omega) d os q a b h2 h3 h4
  have HI : Hid _ := hins
  have hmer : ∀ (d : Array α) (os : Array Obj) (n0 a m b : Nat), d.size = D.size → a < m → m < b → b ≤ D.size → _ := fun d os n0 a m b h2 h3 h4 h5 => symM_calls L enc w blk off cap D g cb cf hk h1 eg hcmp hH hblk (by omega) D.size d os n0 a m b h2 h3 h4 h5 (by omega)
  have HM : Hid _ := hmer
  have HST : Hid (w = SW k enc w blk off 0 D #[]) := by show w = sortWorldK enc k w blk off 0 D #[]; unfold sortWorldK; rw [grow_empty]; exact (putRowK_self enc k w blk off D hH).symm
  have e98 : ∀ args w, (callFunc 98 args).run P w = .ok (.enter 98 args) w := LI.f20.enters rfl
  have e99 : ∀ args w, (callFunc 99 args).run P w = .ok (.enter 99 args) w := enters_of L.f99 (by kernel_rfl) rfl
  clear hins hmer hcmp hH hk h1
  go_enter L.f93, Try.ntmps93
  go_wp2
  go_loopg [7, 8] (D.size) (fun gk va vb wr => ∃ (a q : Nat) (dk : Array α) (os1 : Array Obj), va = .int .i64 a ∧ vb = .int .i64 ((a : Int) + 20) ∧ a ≤ D.size ∧ D.size - a ≤ gk ∧ dk.size = D.size ∧ wr = SW k enc w blk off q dk os1 ∧ Hid (insB (ltOf cf) D.size (D.size - a + 1) a dk = insB (ltOf cf) D.size (D.size + 1) 0 D))
  case atStart => exact ⟨0, 0, D, #[], rfl, rfl, Nat.zero_le _, Nat.sub_le _ _, rfl, HST.out, by show _ = _; rw [Nat.sub_zero]⟩
  case round =>
    obtain ⟨a, q, dk, os1, rfl, rfl, ha, hg, hsk, rfl, HR⟩ := hrel
    by_cases hlt : a + 20 ≤ D.size
    · have hltz : (a : Int) + 20 ≤ (D.size : Int) := by omega
      go_wp2_with fail
      have hc := HI.out dk os1 q a (a + 20) hsk (by omega) (by omega)
      rw [show ((a + 20 : Nat) : Int) = (a : Int) + 20 by omega] at hc
      refine hc.mono ?_
      rintro e w' ⟨rfl, n1, os2, rfl⟩
      have wa : IntKind.i64.wrap ((a : Int) + 20 + 20) = (a : Int) + 20 + 20 := by rw [IntKind.wrap_i64]; omega
      go_wp2
      go_roundg (D.size - (a + 20))
      case measure => omega
      case rel =>
        refine ⟨a + 20, n1, _, os2, by go_num, by go_num, hlt, Nat.le_refl _, by rw [size_insertionSort]; exact hsk, rfl, ?_⟩
        show _ = _
        have h := HR.out
        rw [insB, if_pos hlt] at h
        rw [← h]
        exact (insB_fuel _ _ (D.size - (a + 20) + 1) (D.size - a) _ _ (by omega) (by omega)).symm
    · have hltz : ¬ ((a : Int) + 20 ≤ (D.size : Int)) := by omega
      go_wp2_with fail
      refine (HI.out dk os1 q a D.size hsk ha (Nat.le_refl _)).mono ?_
      rintro e w' ⟨rfl, n1, os2, rfl⟩
      have h1 : insB (ltOf cf) D.size (D.size + 1) 0 D = insertionSort (ltOf cf) dk a D.size := by
        have h := HR.out
        rw [insB, if_neg hlt] at h
        exact h.symm
      have HD1 : Hid _ := h1
      have hs1 : (insertionSort (ltOf cf) dk a D.size).size = D.size := by rw [size_insertionSort]; exact hsk
      clear h1 HR hlt hltz ha hg
      generalize insertionSort (ltOf cf) dk a D.size = d1 at HD1 hs1 ⊢
      go_wp2_with fail
      go_loopg [6, 7, 8, 9] (D.size) (fun gk2 vbs va vb vm wr => ∃ (bs q : Nat) (dk : Array α) (os1 : Array Obj), vbs = .int .i64 bs ∧ 0 < bs ∧ D.size - bs ≤ gk2 ∧ dk.size = D.size ∧ wr = SW k enc w blk off q dk os1 ∧ Hid (mrg (ltOf cf) D.size (D.size - bs + 1) bs dk = mrg (ltOf cf) D.size (D.size + 1) 20 d1))
      case atStart => exact ⟨20, n1, d1, os2, rfl, by omega, by omega, hs1, rfl, (mrg_fuel _ _ (D.size - 20 + 1) (D.size + 1) 20 d1 (by omega) (by omega) (by omega)).symm⟩
      case round =>
        obtain ⟨bs, q, dk, os1, rfl, hb0, hg2, hsk2, rfl, HR2⟩ := hrel
        by_cases hbn : bs < D.size
        · have hbnz : (bs : Int) < (D.size : Int) := by omega
          have w2 : IntKind.i64.wrap (2 * (bs : Int)) = 2 * (bs : Int) := by rw [IntKind.wrap_i64]; omega
          go_wp2_with fail
          go_loopg [7, 8] (D.size) (fun gk3 va vb wr => ∃ (a q : Nat) (dk3 : Array α) (os1 : Array Obj), va = .int .i64 a ∧ vb = .int .i64 ((a : Int) + 2 * (bs : Int)) ∧ a ≤ D.size ∧ D.size - a ≤ gk3 ∧ dk3.size = D.size ∧ wr = SW k enc w blk off q dk3 os1 ∧ Hid (mrgP (ltOf cf) D.size bs (D.size - a + 1) a dk3 = mrgP (ltOf cf) D.size bs (D.size + 1) 0 dk))
          case atStart => exact ⟨0, q, dk, os1, rfl, by go_num, Nat.zero_le _, Nat.sub_le _ _, hsk2, rfl, by show _ = _; rw [Nat.sub_zero]⟩
          case round =>
            obtain ⟨a, q, dk3, os1, rfl, rfl, ha, hg3, hsk3, rfl, HR3⟩ := hrel
            by_cases hlt : a + 2 * bs ≤ D.size
            · have hltz : (a : Int) + 2 * (bs : Int) ≤ (D.size : Int) := by omega
              have wab : IntKind.i64.wrap ((a : Int) + (bs : Int)) = (a : Int) + (bs : Int) := by rw [IntKind.wrap_i64]; omega
              go_wp2_with fail
              have hc := HM.out dk3 os1 q a (a + bs) (a + 2 * bs) hsk3 (by omega) (by omega) hlt
              rw [show ((a + bs : Nat) : Int) = (a : Int) + (bs : Int) by omega, show ((a + 2 * bs : Nat) : Int) = (a : Int) + 2 * (bs : Int) by omega] at hc
              refine hc.mono ?_
              rintro e w' ⟨rfl, n1, os2, rfl⟩
              have w4 : IntKind.i64.wrap ((a : Int) + 2 * (bs : Int) + 2 * (bs : Int)) = (a : Int) + 2 * (bs : Int) + 2 * (bs : Int) := by rw [IntKind.wrap_i64]; omega
              go_wp2
              go_roundg (D.size - (a + 2 * bs))
              case measure => omega
              case rel =>
                refine ⟨a + 2 * bs, n1, _, os2, by go_num, by go_num, hlt, Nat.le_refl _, by rw [size_symM]; exact hsk3, rfl, ?_⟩
                show _ = _
                have h := HR3.out
                rw [mrgP, if_pos hlt] at h
                rw [← h]
                exact (mrgP_fuel _ _ bs (D.size - (a + 2 * bs) + 1) hb0 (D.size - a) _ _ (by omega) (by omega)).symm
            · have hltz : ¬ ((a : Int) + 2 * (bs : Int) ≤ (D.size : Int)) := by omega
              have wab : IntKind.i64.wrap ((a : Int) + (bs : Int)) = (a : Int) + (bs : Int) := by rw [IntKind.wrap_i64]; omega
              have w5 : IntKind.i64.wrap ((bs : Int) * 2) = (bs : Int) * 2 := by rw [IntKind.wrap_i64]; omega
              have h3 := HR3.out
              rw [mrgP, if_neg hlt] at h3
              have h2 := HR2.out
              rw [mrg, if_pos hbn, ← h3] at h2
              by_cases hmn : a + bs < D.size
              · have hmnz : (a : Int) + (bs : Int) < (D.size : Int) := by omega
                rw [if_pos hmn] at h2
                have H2 : Hid _ := h2
                clear h2 h3
                go_wp2_with fail
                have hc := HM.out dk3 os1 q a (a + bs) D.size hsk3 (by omega) (by omega) (Nat.le_refl _)
                rw [show ((a + bs : Nat) : Int) = (a : Int) + (bs : Int) by omega] at hc
                refine hc.mono ?_
                rintro e w' ⟨rfl, n1, os2, rfl⟩
                go_wp2
                go_roundg (D.size - bs * 2)
                case measure => omega
                case rel =>
                  refine ⟨bs * 2, n1, _, os2, by go_num, by omega, Nat.le_refl _, by rw [size_symM]; exact hsk3, rfl, ?_⟩
                  show _ = _
                  rw [← H2.out]
                  exact (mrg_fuel _ _ (D.size - bs * 2 + 1) (D.size - bs) _ _ (by omega) (by omega) (by omega)).symm
              · have hmnz : ¬ ((a : Int) + (bs : Int) < (D.size : Int)) := by omega
                rw [if_neg hmn] at h2
                have H2 : Hid _ := h2
                clear h2 h3
                go_wp2
                go_roundg (D.size - bs * 2)
                case measure => omega
                case rel =>
                  refine ⟨bs * 2, q, dk3, os1, by go_num, by omega, Nat.le_refl _, hsk3, rfl, ?_⟩
                  show _ = _
                  rw [← H2.out]
                  exact (mrg_fuel _ _ (D.size - bs * 2 + 1) (D.size - bs) _ _ (by omega) (by omega) (by omega)).symm
        · have hbnz : ¬ ((bs : Int) < (D.size : Int)) := by omega
          go_wp2
          (try simp only [Exit.inBlock, Exit.then]); refine bodyPost_end (results_none rfl _ _ _) rfl ?_
          refine ⟨rfl, q, os1, ?_⟩
          have h := HR2.out
          rw [mrg, if_neg hbn] at h
          rw [h]
          unfold stab
          rw [HD1.out]

theorem sortStable_calls (L : Lay P k) (LI : SlLaysF0.n20 P insRen) (enc : α → List Value) (w : World) (blk off cap : Nat) (D : Array α) (g : Nat) (cb : Array Value) (cf : α → α → Int) (hk : ∀ x, (enc x).length = k) (h1 : ∀ x, ∀ v ∈ enc x, v.oneCell' = true)
    (eg : ∀ args w, (callFunc g args).run P w = .ok (.enter g args) w) (hcmp : CmpLays P g cb enc k cf blk off D.size w) (hH : HoldsK enc k w blk off D) (hblk : blk < w.heap.size) (hsz : D.size < 1152921504606846976) :
    Calls P 70 #[.slice (some ⟨blk, off, none⟩) D.size cap, .func (.func g) #[] cb] w fun e w' =>
      e = .returned (.tuple #[]) ∧ ∃ n1 os1, w' = SW k enc w blk off n1 (stab (ltOf cf) D) os1 := by
  have mixed := L.mixed; have t0 := L.t0; have a0 := L.a0; have z0 := L.z0; have v0 := L.v0; have t3 := L.t3; have a3 := L.a3; have z3 := L.z3; have v3 := L.v3; have t60 := L.t60; have a60 := L.a60; have z60 := L.z60; have v60 := L.v60; have t94 := L.t94; have a94 := L.a94; have z94 := L.z94; have v94 := L.v94
  have u60 := run_underlying L.t60
  have e93 : ∀ args w, (callFunc 93 args).run P w = .ok (.enter 93 args) w := enters_of L.f93 (by kernel_rfl) rfl
  have hc := stab_calls L LI enc w blk off cap D g cb cf hk h1 eg hcmp hH hblk hsz
  clear hcmp hH hk h1
  go_enter L.f70, Try.ntmps70
  go_wp2_with fail
  refine hc.mono ?_
  rintro e w' ⟨rfl, n1, os1, rfl⟩
  go_wp2
  (try simp only [Exit.inBlock, Exit.then]); refine bodyPost_end (results_none rfl _ _ _) rfl ?_
  exact ⟨rfl, n1, os1, rfl⟩
end Go.Proofs.Ytgghglocfdcegaa.Stab
