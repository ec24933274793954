/- Go's slices.symMergeCmpFunc walked: what it leaves is symM of what lay there. -/
import Derived.Test.YtgghglocfdcegaaStabA
import Derived.Deep.DeepCutAuto
import Derived.Deep.CutBlock
namespace Go.Proofs.Ytgghglocfdcegaa.Stab
open Go Go.Proofs Go.Shelf Go.RowKit Go.Lib Go.Sort
variable {α : Type} [Inhabited α] {P : Program} {k : Nat}
/-- The facts of a comparison of elements x and y, in every world of the region's class. -/
theorem cmp_facts (enc : α → List Value) (w : World) (blk off : Nat) (D dk : Array α) (os1 : Array Obj) (q x y g : Nat) (cb : Array Value) (cf : α → α → Int) (hk : ∀ x, (enc x).length = k)
    (hcmp : CmpLays P g cb enc k cf blk off D.size w) (hH : HoldsK enc k w blk off D) (hblk : blk < w.heap.size) (hs : dk.size = D.size) (hx : x < D.size) (hy : y < D.size) :
    ∃ (W : World) (cx cy : List Value) (cv : Int), SW k enc w blk off q dk os1 = W ∧ cv = cf dk[x]! dk[y]! ∧ cx.length = k ∧ cy.length = k ∧
      (∀ n' os', Sem.run P (loadCellsFrom ⟨blk, off + x * k, none⟩ 0 k #[]) (grow (W.drewN n') os') = .ok cx.toArray (grow (W.drewN n') os')) ∧
      (∀ n' os', Sem.run P (loadCellsFrom ⟨blk, off + y * k, none⟩ 0 k #[]) (grow (W.drewN n') os') = .ok cy.toArray (grow (W.drewN n') os')) ∧
      (∀ n' os', Calls P g (#[.agg cx.toArray, .agg cy.toArray] ++ cb) (grow (W.drewN n') os') fun e w' => e = .returned (.int .i64 cv) ∧ ∃ q os'', w' = grow ((grow (W.drewN n') os').drewN q) os'') ∧
      (∀ n' os', grow (W.drewN n') os' = SW k enc w blk off (q + n') dk (os1 ++ os')) := by
  have hcls : ∀ n' os', grow ((SW k enc w blk off q dk os1).drewN n') os' = SW k enc w blk off (q + n') dk (os1 ++ os') := fun n' os' => sortWorldK_grown_c enc k w blk off q n' dk os1 os'
  have hHc : ∀ n' os', HoldsK enc k (grow ((SW k enc w blk off q dk os1).drewN n') os') blk off dk := fun n' os' => by rw [hcls]; exact holdsK_sortWorldK_c enc k w blk off D dk _ _ hH hblk hs
  refine ⟨_, enc dk[x]!, enc dk[y]!, _, rfl, rfl, hk _, hk _, ?_, ?_, ?_, hcls⟩
  · exact fun n' os' => run_loadCellsFrom_list P _ _ _ k (hk _) (HoldsK.cells (hHc n' os') hk (by omega))
  · exact fun n' os' => run_loadCellsFrom_list P _ _ _ k (hk _) (HoldsK.cells (hHc n' os') hk (by omega))
  · intro n' os'
    rw [hcls]
    exact hcmp _ _ dk hs _ _

set_option maxHeartbeats 8000000 in
set_option maxRecDepth 1000000 in
theorem symM_calls (L : Lay P k) (enc : α → List Value) (w : World) (blk off cap : Nat) (D : Array α) (g : Nat) (cb : Array Value) (cf : α → α → Int) (hk : ∀ x, (enc x).length = k) (h1 : ∀ x, ∀ v ∈ enc x, v.oneCell' = true)
    (eg : ∀ args w, (callFunc g args).run P w = .ok (.enter g args) w) (hcmp : CmpLays P g cb enc k cf blk off D.size w) (hH : HoldsK enc k w blk off D) (hblk : blk < w.heap.size) (hsz : D.size < 4611686018427387904) (f : Nat) :
    ∀ (d : Array α) (os : Array Obj) (n0 a m b : Nat), d.size = D.size → a < m → m < b → b ≤ D.size → b - a ≤ f →
    Calls P 99 #[.slice (some ⟨blk, off, none⟩) D.size cap, .int .i64 a, .int .i64 m, .int .i64 b, .func (.func g) #[] cb] (SW k enc w blk off n0 d os) fun e w' =>
      e = .returned (.tuple #[]) ∧ ∃ n1 os1, w' = SW k enc w blk off n1 (symM (ltOf cf) f a m b d) os1 := by
  have mixed := L.mixed; have t0 := L.t0; have a0 := L.a0; have z0 := L.z0; have v0 := L.v0; have t3 := L.t3; have a3 := L.a3; have z3 := L.z3; have v3 := L.v3; have t4 := L.t4; have a4 := L.a4; have z4 := L.z4; have v4 := L.v4; have t60 := L.t60; have a60 := L.a60; have z60 := L.z60; have v60 := L.v60; have t94 := L.t94; have a94 := L.a94; have z94 := L.z94; have v94 := L.v94; have t111 := L.t111; have a111 := L.a111; have z111 := L.z111; have v111 := L.v111; have aE := L.aE; have zE := L.zE
  have u60 := run_underlying L.t60
  have u111 := run_underlying L.t111
  have u3 := run_underlying L.t3
  have hswap : ∀ (dj : Array α) (os : Array Obj) (m i j : Nat), dj.size = D.size → i < D.size → j < D.size → _ := fun dj os m i j h2 h3 h4 => swap_facts (P := P) enc w blk off D dj os m i j hk h1 hH hblk h2 h3 h4
  have hcf : ∀ (dk : Array α) (os1 : Array Obj) (q x y : Nat), dk.size = D.size → x < D.size → y < D.size → _ := fun dk os1 q x y h2 h3 h4 => cmp_facts (P := P) enc w blk off D dk os1 q x y g cb cf hk hcmp hH hblk h2 h3 h4
  have HSW : Hid _ := hswap
  have HCF : Hid _ := hcf
  have hrot : ∀ (d : Array α) (os : Array Obj) (n0 a m b : Nat), d.size = D.size → a < m → m < b → b ≤ D.size → _ := fun d os n0 a m b h2 h3 h4 h5 => rotL_calls L enc w blk off cap D d os n0 a m b g cb hk h1 hH hblk h2 h3 h4 h5 hsz
  have HRT : Hid _ := hrot
  have e100 : ∀ args w, (callFunc 100 args).run P w = .ok (.enter 100 args) w := enters_of L.f100 (by kernel_rfl) rfl
  have e99 : ∀ args w, (callFunc 99 args).run P w = .ok (.enter 99 args) w := enters_of L.f99 (by kernel_rfl) rfl
  clear hswap hcf hrot hcmp hH hk h1
  induction f with
  | zero => intro d os n0 a m b h2 h3 h4 h5 h6; omega
  | succ f ih =>
    intro d os n0 a m b hs ham hmb hbD hf
    have IH : Hid _ := ih
    clear ih
    have wma : IntKind.i64.wrap ((m : Int) - (a : Int)) = (m : Int) - (a : Int) := by rw [IntKind.wrap_i64]; omega
    have wbm : IntKind.i64.wrap ((b : Int) - (m : Int)) = (b : Int) - (m : Int) := by rw [IntKind.wrap_i64]; omega
    go_enter L.f99, Try.ntmps99
    by_cases hm1 : m - a = 1
    · have hm1z : (m : Int) - (a : Int) = 1 := by omega
      go_wp2
      go_loopg [10, 11, 12] (b - m) (fun gk vi vj vh wr => ∃ (i j q : Nat) (os1 : Array Obj), vi = .int .i64 i ∧ vj = .int .i64 j ∧ m ≤ i ∧ i ≤ j ∧ j ≤ b ∧ j - i ≤ gk ∧ wr = SW k enc w blk off q d os1 ∧ Hid (bsr (fun h => ltOf cf d[h]! d[a]!) (j - i) i j = bsr (fun h => ltOf cf d[h]! d[a]!) b m b))
      case atStart => exact ⟨m, b, n0, os, rfl, rfl, Nat.le_refl _, by omega, Nat.le_refl _, Nat.le_refl _, rfl, (bsr_fuel _ (b - m) b m b (Nat.le_refl _) (by omega)).symm⟩
      case round =>
        obtain ⟨i, j, q, os1, rfl, rfl, hmi, hij, hjb, hg, rfl, HR⟩ := hrel
        by_cases hlt : i < j
        · have hltz : (i : Int) < (j : Int) := by omega
          go_wp2_with fail
          obtain ⟨h, hh⟩ : ∃ h : Nat, h = (i + j) / 2 := ⟨_, rfl⟩
          have hhz : ((i : Int) + (j : Int)) / 2 = (h : Int) := by omega
          simp only [hhz]
          obtain ⟨W, cx, cy, cv, hW, hcv, hcx, hcy, lx, ly, hcg, hcls⟩ := HCF.out d os1 q h a hs (by omega) (by omega)
          have CLS : Hid _ := hcls
          have hz1 : (h : Int) < (D.size : Int) := by omega
          have hz2 : (a : Int) < (D.size : Int) := by omega
          have hz3 : h < D.size := by omega
          have hz4 : a < D.size := by omega
          have w1 : IntKind.i64.wrap ((h : Int) + 1) = (h : Int) + 1 := by rw [IntKind.wrap_i64]; omega
          have HH : Hid (h = (i + j) / 2) := hh
          have HCV : Hid _ := hcv
          clear hcls hh hhz hcv
          rw [hW]
          clear hW
          by_cases hlv : cv < 0
          · refine wp_region_quiet_grown (by assumption) (by kernel_rfl) ?_
            repeat (go_big_quiet_step (first | (go_at_fn g; refine Calls.grown_of (hcg _ _))))
            refine wpQuiet_nil ?_
            intro _ hw'
            obtain ⟨⟨nq, osq⟩, hw''⟩ := hw'
            subst hw''
            go_wp2
            go_roundg (j - (h + 1))
            case measure => have := HH.out; omega
            case rel =>
              refine ⟨h + 1, j, _, _, by go_num, rfl, by have := HH.out; omega, by have := HH.out; omega, hjb, Nat.le_refl _, CLS.out nq osq, ?_⟩
              show _ = _
              rw [← HR.out]
              obtain ⟨x, hx⟩ : ∃ x, j - i = x + 1 := ⟨j - i - 1, by omega⟩
              rw [hx, bsr, if_pos hlt, ← HH.out, if_pos (show ltOf cf d[h]! d[a]! = true from decide_eq_true (by rw [← HCV.out]; exact hlv))]
              exact (bsr_fuel _ _ x _ _ (Nat.le_refl _) (by have := HH.out; omega)).symm
          · refine wp_region_quiet_grown (by assumption) (by kernel_rfl) ?_
            repeat (go_big_quiet_step (first | (go_at_fn g; refine Calls.grown_of (hcg _ _))))
            refine wpQuiet_nil ?_
            intro _ hw'
            obtain ⟨⟨nq, osq⟩, hw''⟩ := hw'
            subst hw''
            go_wp2
            go_roundg (h - i)
            case measure => have := HH.out; omega
            case rel =>
              refine ⟨i, h, _, _, rfl, rfl, hmi, by have := HH.out; omega, by have := HH.out; omega, Nat.le_refl _, CLS.out nq osq, ?_⟩
              show _ = _
              rw [← HR.out]
              obtain ⟨x, hx⟩ : ∃ x, j - i = x + 1 := ⟨j - i - 1, by omega⟩
              rw [hx, bsr, if_pos hlt, ← HH.out, if_neg (show ¬ ltOf cf d[h]! d[a]! = true from by unfold ltOf; rw [← HCV.out]; simpa using hlv)]
              exact (bsr_fuel _ _ x _ _ (Nat.le_refl _) (by have := HH.out; omega)).symm
        · have hltz : ¬ (i : Int) < (j : Int) := by omega
          obtain rfl : i = j := by omega
          have hri : i = bsr (fun h => ltOf cf d[h]! d[a]!) b m b := by
            have h := HR.out
            rw [show i - i = 0 by omega] at h
            exact h
          have HRI : Hid _ := hri
          clear hri HR hlt hltz hij
          have w1 : IntKind.i64.wrap ((i : Int) - 1) = (i : Int) - 1 := by rw [IntKind.wrap_i64]; omega
          go_wp2_with fail
          go_loopg [13] (i - 1 - a) (fun gk2 vk wr => ∃ (x q : Nat) (os1 : Array Obj), vk = .int .i64 ((a + x : Nat) : Int) ∧ a + x ≤ i - 1 ∧ i - 1 - (a + x) ≤ gk2 ∧ wr = SW k enc w blk off q (shiftU d a x) os1)
          case atStart => exact ⟨0, q, os1, rfl, by omega, by omega, rfl⟩
          case round =>
            obtain ⟨x, q, os1, rfl, hx, hg2, rfl⟩ := hrel
            by_cases hlt : a + x < i - 1
            · have hltz : ((a + x : Nat) : Int) < (i : Int) - 1 := by omega
              obtain ⟨y, hy⟩ : ∃ y, y = a + x := ⟨_, rfl⟩
              rw [← hy] at hltz ⊢
              go_wp2_with fail
              obtain ⟨W, ci, cj, hW, hci, hcj, lp, lj, s1, s2, hfin⟩ := HSW.out (shiftU d a x) os1 q y (y + 1) (by rw [size_shiftU]; exact hs) (by omega) (by omega)
              have HF : Hid _ := hfin
              have HY : Hid (y = a + x) := hy
              have wy : IntKind.i64.wrap ((y : Int) + 1) = (y : Int) + 1 := by rw [IntKind.wrap_i64]; omega
              have p0 : (0 : Int) ≤ (y : Int) + 1 := by omega
              have e0 : ((y : Int) + 1).toNat = y + 1 := by omega
              have jz : (y : Int) + 1 < (D.size : Int) := by omega
              have jz1 : (y : Int) < (D.size : Int) := by omega
              have jz2 : y < D.size := by omega
              clear hfin hy
              generalize SW k enc w blk off q (shiftU d a x) os1 = wq at hW ⊢
              subst hW
              go_big_region_o
              go_wp2
              go_roundg (i - 1 - (a + (x + 1)))
              case measure => omega
              case rel => exact ⟨x + 1, q + 1, os1, by rw [HY.out]; go_num, by omega, Nat.le_refl _, by rw [HF.out, shiftU, HY.out]⟩
            · have hltz : ¬ ((a + x : Nat) : Int) < (i : Int) - 1 := by omega
              obtain ⟨y, hy⟩ : ∃ y, y = a + x := ⟨_, rfl⟩
              rw [← hy] at hltz ⊢
              go_wp2
              (try simp only [Exit.inBlock, Exit.then]); refine bodyPost_ret (results_none rfl _ _ _) rfl ?_
              refine ⟨rfl, q, os1, ?_⟩
              rw [symM, if_pos hm1, ← HRI.out, show i - 1 - a = x by omega]
    · have hm1z : ¬ ((m : Int) - (a : Int) = 1) := by omega
      have hm1y : (((m : Int) - (a : Int)) == 1) = false := beq_eq_false_iff_ne.mpr hm1z
      by_cases hb1 : b - m = 1
      · have hb1z : (b : Int) - (m : Int) = 1 := by omega
        go_wp2
        go_loopg [14, 15, 16] (m - (a)) (fun gk vi vj vh wr => ∃ (i j q : Nat) (os1 : Array Obj), vi = .int .i64 i ∧ vj = .int .i64 j ∧ a ≤ i ∧ i ≤ j ∧ j ≤ m ∧ j - i ≤ gk ∧ wr = SW k enc w blk off q d os1 ∧ Hid (bsr (fun h => !ltOf cf d[m]! d[h]!) (j - i) i j = bsr (fun h => !ltOf cf d[m]! d[h]!) b a m))
        case atStart => exact ⟨a, m, n0, os, by go_num, by go_num, Nat.le_refl _, by omega, Nat.le_refl _, Nat.le_refl _, rfl, (bsr_fuel _ (m - a) b a m (Nat.le_refl _) (by omega)).symm⟩
        case round =>
          obtain ⟨i, j, q, os1, rfl, rfl, hmi, hij, hjb, hg, rfl, HR⟩ := hrel
          by_cases hlt : i < j
          · have hltz : (i : Int) < (j : Int) := by omega
            go_wp2_with fail
            obtain ⟨h, hh⟩ : ∃ h : Nat, h = (i + j) / 2 := ⟨_, rfl⟩
            have hhz : ((i : Int) + (j : Int)) / 2 = (h : Int) := by omega
            simp only [hhz]
            obtain ⟨W, cx, cy, cv, hW, hcv, hcx, hcy, lx, ly, hcg, hcls⟩ := HCF.out d os1 q (m) (h) hs (by omega) (by omega)
            have CLS : Hid _ := hcls
            have HCV : Hid _ := hcv
            have hz2 : (m : Int) < (D.size : Int) := by omega
            have hz4 : m < D.size := by omega
            have hz1 : (h : Int) < (D.size : Int) := by omega
            have hz3 : h < D.size := by omega
            have w1 : IntKind.i64.wrap ((h : Int) + 1) = (h : Int) + 1 := by rw [IntKind.wrap_i64]; omega
            have HH : Hid (h = (i + j) / 2) := hh
            clear hcls hh hhz hcv
            rw [hW]
            clear hW
            by_cases hlv : cv < 0
            · refine wp_region_quiet_grown (by assumption) (by kernel_rfl) ?_
              repeat (go_big_quiet_step (first | (go_at_fn g; refine Calls.grown_of (hcg _ _))))
              refine wpQuiet_nil ?_
              intro _ hw'
              obtain ⟨⟨nq, osq⟩, hw''⟩ := hw'
              subst hw''
              go_wp2
              go_roundg (h - i)
              case measure => have := HH.out; omega
              case rel =>
                refine ⟨i, h, _, _, rfl, rfl, hmi, by have := HH.out; omega, by have := HH.out; omega, Nat.le_refl _, CLS.out nq osq, ?_⟩
                show _ = _
                rw [← HR.out]
                obtain ⟨x, hx⟩ : ∃ x, j - i = x + 1 := ⟨j - i - 1, by omega⟩
                rw [hx, bsr, if_pos hlt, ← HH.out, if_neg (show ¬ (!ltOf cf d[m]! d[h]!) = true from by rw [show ltOf cf d[m]! d[h]! = true from decide_eq_true (by rw [← HCV.out]; exact hlv)]; decide)]
                exact (bsr_fuel _ _ x _ _ (Nat.le_refl _) (by have := HH.out; omega)).symm
            · refine wp_region_quiet_grown (by assumption) (by kernel_rfl) ?_
              repeat (go_big_quiet_step (first | (go_at_fn g; refine Calls.grown_of (hcg _ _))))
              refine wpQuiet_nil ?_
              intro _ hw'
              obtain ⟨⟨nq, osq⟩, hw''⟩ := hw'
              subst hw''
              go_wp2
              go_roundg (j - (h + 1))
              case measure => have := HH.out; omega
              case rel =>
                refine ⟨h + 1, j, _, _, by go_num, rfl, by have := HH.out; omega, by have := HH.out; omega, hjb, Nat.le_refl _, CLS.out nq osq, ?_⟩
                show _ = _
                rw [← HR.out]
                obtain ⟨x, hx⟩ : ∃ x, j - i = x + 1 := ⟨j - i - 1, by omega⟩
                rw [hx, bsr, if_pos hlt, ← HH.out, if_pos (show (!ltOf cf d[m]! d[h]!) = true from by rw [show ltOf cf d[m]! d[h]! = false from decide_eq_false (by rw [← HCV.out]; omega)]; decide)]
                exact (bsr_fuel _ _ x _ _ (Nat.le_refl _) (by have := HH.out; omega)).symm
          · have hltz : ¬ (i : Int) < (j : Int) := by omega
            obtain rfl : i = j := by omega
            have hri : i = bsr (fun h => !ltOf cf d[m]! d[h]!) b a m := by
              have h := HR.out
              rw [show i - i = 0 by omega] at h
              exact h
            have HRI : Hid _ := hri
            clear hri HR hlt hltz hij
            go_wp2_with fail
            go_loopg [17] (m - i) (fun gk2 vk wr => ∃ (x q : Nat) (os1 : Array Obj), vk = .int .i64 ((m - x : Nat) : Int) ∧ x ≤ m - i ∧ m - i - x ≤ gk2 ∧ wr = SW k enc w blk off q (shiftD d m x) os1)
            case atStart => exact ⟨0, q, os1, rfl, by omega, by omega, rfl⟩
            case round =>
              obtain ⟨x, q, os1, rfl, hx, hg2, rfl⟩ := hrel
              by_cases hlt : i < m - x
              · obtain ⟨y, hy⟩ : ∃ y, m - x = y + 1 := ⟨m - x - 1, by omega⟩
                rw [hy]
                have hltz : (i : Int) < (y : Int) + 1 := by omega
                go_wp2_with fail
                obtain ⟨W, ci, cj, hW, hci, hcj, lp, lj, s1, s2, hfin⟩ := HSW.out (shiftD d m x) os1 q (y + 1) y (by rw [size_shiftD]; exact hs) (by omega) (by omega)
                have HF : Hid _ := hfin
                have HY : Hid (m - x = y + 1) := hy
                have wy : IntKind.i64.wrap (y : Int) = (y : Int) := by rw [IntKind.wrap_i64]; omega
                have p0 : (0 : Int) ≤ (y : Int) + 1 := by omega
                have e0 : ((y : Int) + 1).toNat = y + 1 := by omega
                have jz : (y : Int) + 1 < (D.size : Int) := by omega
                have jz1 : (y : Int) < (D.size : Int) := by omega
                have jz2 : y < D.size := by omega
                clear hfin hy
                generalize SW k enc w blk off q (shiftD d m x) os1 = wq at hW ⊢
                subst hW
                go_big_region_o
                go_wp2
                go_roundg (m - i - (x + 1))
                case measure => have := HY.out; omega
                case rel => exact ⟨x + 1, q + 1, os1, by rw [show m - (x + 1) = y by have := HY.out; omega], by have := HY.out; omega, Nat.le_refl _, by rw [HF.out, shiftD, HY.out]; rfl⟩
              · have hltz : ¬ (i : Int) < ((m - x : Nat) : Int) := by omega
                obtain ⟨y, hy⟩ : ∃ y, y = m - x := ⟨_, rfl⟩
                rw [← hy] at hltz ⊢
                go_wp2
                (try simp only [Exit.inBlock, Exit.then]); refine bodyPost_ret (results_none rfl _ _ _) rfl ?_
                refine ⟨rfl, q, os1, ?_⟩
                rw [symM, if_neg hm1, if_pos hb1, ← HRI.out, show m - i = x by omega]
      · have hb1z : ¬ ((b : Int) - (m : Int) = 1) := by omega
        have hb1y : (((b : Int) - (m : Int)) == 1) = false := beq_eq_false_iff_ne.mpr hb1z
        go_upto_region 25 with (fail)
        obtain ⟨mid, hmid⟩ : ∃ mid : Nat, mid = (a + b) / 2 := ⟨_, rfl⟩
        have hmidz : ((a : Int) + (b : Int)) / 2 = (mid : Int) := by omega
        simp only [hmidz]
        have HMID : Hid (mid = (a + b) / 2) := hmid
        have hmid1 : a < mid := by omega
        have hmid2 : mid < b := by omega
        have hmid3 : 2 * mid ≤ a + b := by omega
        have hmid4 : a + b ≤ 2 * mid + 1 := by omega
        clear hmid hmidz
        have wn : IntKind.i64.wrap ((mid : Int) + (m : Int)) = (mid : Int) + (m : Int) := by rw [IntKind.wrap_i64]; omega
        have wn1 : IntKind.i64.wrap ((mid : Int) + (m : Int) - 1) = (mid : Int) + (m : Int) - 1 := by rw [IntKind.wrap_i64]; omega
        have wnb : IntKind.i64.wrap ((mid : Int) + (m : Int) - (b : Int)) = (mid : Int) + (m : Int) - (b : Int) := by rw [IntKind.wrap_i64]; omega
        by_cases hmm : mid < m
        · have hmmz : ((mid : Int) < (m : Int)) := by omega
          have HS0 : Hid (symS (ltOf cf) a m b d = bsr (fun c => !ltOf cf d[mid + m - 1 - c]! d[c]!) b (mid + m - b) mid) := by show _ = _; unfold symS; rw [← HMID.out, if_pos hmm]
          go_wp2_with fail
          go_loopg [20, 21, 23] (mid - ((mid + m - b))) (fun gk vi vj vh wr => ∃ (i j q : Nat) (os1 : Array Obj), vi = .int .i64 i ∧ vj = .int .i64 j ∧ (mid + m - b) ≤ i ∧ i ≤ j ∧ j ≤ mid ∧ j - i ≤ gk ∧ wr = SW k enc w blk off q d os1 ∧ Hid (bsr (fun c => !ltOf cf d[mid + m - 1 - c]! d[c]!) (j - i) i j = symS (ltOf cf) a m b d))
          case atStart => exact ⟨(mid + m - b), mid, n0, os, by go_num, by go_num, Nat.le_refl _, by omega, Nat.le_refl _, Nat.le_refl _, rfl, by rw [HS0.out]; exact (bsr_fuel _ _ b _ _ (Nat.le_refl _) (by omega)).symm⟩
          case round =>
            obtain ⟨i, j, q, os1, rfl, rfl, hmi, hij, hjb, hg, rfl, HR⟩ := hrel
            by_cases hlt : i < j
            · have hltz : (i : Int) < (j : Int) := by omega
              go_wp2_with fail
              obtain ⟨h, hh⟩ : ∃ h : Nat, h = (i + j) / 2 := ⟨_, rfl⟩
              have hhz : ((i : Int) + (j : Int)) / 2 = (h : Int) := by omega
              simp only [hhz]
              obtain ⟨W, cx, cy, cv, hW, hcv, hcx, hcy, lx, ly, hcg, hcls⟩ := HCF.out d os1 q (mid + m - 1 - h) (h) hs (by omega) (by omega)
              have CLS : Hid _ := hcls
              have HCV : Hid _ := hcv
              have hx0 : (0 : Int) ≤ (mid : Int) + (m : Int) - 1 - (h : Int) := by omega
              have hx1 : (mid : Int) + (m : Int) - 1 - (h : Int) < (D.size : Int) := by omega
              have hx2 : ((mid : Int) + (m : Int) - 1 - (h : Int)).toNat = mid + m - 1 - h := by omega
              have wx : IntKind.i64.wrap ((mid : Int) + (m : Int) - 1 - (h : Int)) = (mid : Int) + (m : Int) - 1 - (h : Int) := by rw [IntKind.wrap_i64]; omega
              have hz1 : (h : Int) < (D.size : Int) := by omega
              have hz3 : h < D.size := by omega
              have w1 : IntKind.i64.wrap ((h : Int) + 1) = (h : Int) + 1 := by rw [IntKind.wrap_i64]; omega
              have HH : Hid (h = (i + j) / 2) := hh
              clear hcls hh hhz hcv
              rw [hW]
              clear hW
              by_cases hlv : cv < 0
              · refine wp_region_quiet_grown (by assumption) (by kernel_rfl) ?_
                repeat (go_big_quiet_step (first | (go_at_fn g; refine Calls.grown_of (hcg _ _))))
                refine wpQuiet_nil ?_
                intro _ hw'
                obtain ⟨⟨nq, osq⟩, hw''⟩ := hw'
                subst hw''
                go_wp2
                go_roundg (h - i)
                case measure => have := HH.out; omega
                case rel =>
                  refine ⟨i, h, _, _, rfl, rfl, hmi, by have := HH.out; omega, by have := HH.out; omega, Nat.le_refl _, CLS.out nq osq, ?_⟩
                  show _ = _
                  rw [← HR.out]
                  obtain ⟨x, hx⟩ : ∃ x, j - i = x + 1 := ⟨j - i - 1, by omega⟩
                  rw [hx, bsr, if_pos hlt, ← HH.out, if_neg (show ¬ (!ltOf cf d[mid + m - 1 - h]! d[h]!) = true from by rw [show ltOf cf d[mid + m - 1 - h]! d[h]! = true from decide_eq_true (by rw [← HCV.out]; exact hlv)]; decide)]
                  exact (bsr_fuel _ _ x _ _ (Nat.le_refl _) (by have := HH.out; omega)).symm
              · refine wp_region_quiet_grown (by assumption) (by kernel_rfl) ?_
                repeat (go_big_quiet_step (first | (go_at_fn g; refine Calls.grown_of (hcg _ _))))
                refine wpQuiet_nil ?_
                intro _ hw'
                obtain ⟨⟨nq, osq⟩, hw''⟩ := hw'
                subst hw''
                go_wp2
                go_roundg (j - (h + 1))
                case measure => have := HH.out; omega
                case rel =>
                  refine ⟨h + 1, j, _, _, by go_num, rfl, by have := HH.out; omega, by have := HH.out; omega, hjb, Nat.le_refl _, CLS.out nq osq, ?_⟩
                  show _ = _
                  rw [← HR.out]
                  obtain ⟨x, hx⟩ : ∃ x, j - i = x + 1 := ⟨j - i - 1, by omega⟩
                  rw [hx, bsr, if_pos hlt, ← HH.out, if_pos (show (!ltOf cf d[mid + m - 1 - h]! d[h]!) = true from by rw [show ltOf cf d[mid + m - 1 - h]! d[h]! = false from decide_eq_false (by rw [← HCV.out]; omega)]; decide)]
                  exact (bsr_fuel _ _ x _ _ (Nat.le_refl _) (by have := HH.out; omega)).symm
            · have hltz : ¬ (i : Int) < (j : Int) := by omega
              obtain rfl : i = j := by omega
              have hri : i = symS (ltOf cf) a m b d := by
                have h := HR.out
                rw [show i - i = 0 by omega] at h
                exact h
              have HRI : Hid _ := hri
              clear hri HR hlt hltz hij
              go_upto_region 39 with (fail)
              obtain ⟨s, hsI⟩ : ∃ s, s = i := ⟨_, rfl⟩
              subst hsI
              obtain ⟨e, he⟩ : ∃ e : Nat, e = mid + m - s := ⟨_, rfl⟩
              have hez : (mid : Int) + (m : Int) - (s : Int) = (e : Int) := by omega
              simp only [hez]
              have HE : Hid (e = mid + m - s) := he
              have hsb : s ≤ mid + m := by omega
              have he1 : e + s = mid + m := by omega
              clear he hez
              by_cases hA : s < m
              · by_cases hB : s < mid
                · by_cases hC : a < s
                  · by_cases hD : e < b
                    · have hAz : (s : Int) < (m : Int) := by omega
                      have hAd : decide ((s : Int) < (m : Int)) = true := decide_eq_true hAz
                      have hBz : (s : Int) < (mid : Int) := by omega
                      have hBd : decide ((s : Int) < (mid : Int)) = true := decide_eq_true hBz
                      have hCz : (a : Int) < (s : Int) := by omega
                      have hCd : decide ((a : Int) < (s : Int)) = true := decide_eq_true hCz
                      have hDz : (e : Int) < (b : Int) := by omega
                      have hDd : decide ((e : Int) < (b : Int)) = true := decide_eq_true hDz
                      have hEz : (m : Int) < (e : Int) := by omega
                      have hEd : decide ((m : Int) < (e : Int)) = true := decide_eq_true hEz
                      have hFz : (mid : Int) < (e : Int) := by omega
                      have hFd : decide ((mid : Int) < (e : Int)) = true := decide_eq_true hFz
                      go_wp2_with fail
                      refine (HRT.out d os1 q s m e hs (by omega) (by omega) (by omega)).mono ?_
                      rintro ex w' ⟨rfl, q, os1, rfl⟩
                      have hd1 : rotI m b a s e d = rotL m (e - s) (m - s) (e - m) d := by unfold rotI; rw [if_pos ⟨hA, by omega⟩]; exact rotL_fuel m (e - s) (b - a) (m - s) (e - m) d (by omega) (by omega) (by omega) (by omega)
                      rw [← hd1]
                      have HD1 : Hid _ := hd1
                      clear hd1
                      have hz1 : (rotI m b a s e d).size = D.size := by unfold rotI; split <;> first | (rw [size_rotL]; exact hs) | exact hs
                      generalize hg1 : rotI m b a s e d = d1 at hz1 HD1 ⊢
                      have HG1 : Hid _ := hg1
                      clear hg1
                      go_wp2_with fail
                      refine (IH.out d1 os1 q a s mid hz1 hC hB (by omega) (by omega)).mono ?_
                      rintro ex w' ⟨rfl, q, os1, rfl⟩
                      have hz2 : (symM (ltOf cf) f a s mid d1).size = D.size := by rw [size_symM]; exact hz1
                      generalize hg2 : symM (ltOf cf) f a s mid d1 = d2 at hz2 ⊢
                      have HG2 : Hid _ := hg2
                      clear hg2
                      go_wp2_with fail
                      refine (IH.out d2 os1 q mid e b hz2 (by omega) hD hbD (by omega)).mono ?_
                      rintro ex w' ⟨rfl, q, os1, rfl⟩
                      go_wp2
                      (try simp only [Exit.inBlock, Exit.then]); refine bodyPost_end (results_none rfl _ _ _) rfl ?_
                      refine ⟨rfl, q, os1, ?_⟩
                      rw [symM, if_neg hm1, if_neg hb1, ← HMID.out, ← HRI.out, ← HE.out, HG1.out]
                      unfold symM.symB symM.symE
                      rw [if_pos ⟨by omega, hD⟩, if_pos ⟨hC, hB⟩, HG2.out]
                    · have hAz : (s : Int) < (m : Int) := by omega
                      have hAd : decide ((s : Int) < (m : Int)) = true := decide_eq_true hAz
                      have hBz : (s : Int) < (mid : Int) := by omega
                      have hBd : decide ((s : Int) < (mid : Int)) = true := decide_eq_true hBz
                      have hCz : (a : Int) < (s : Int) := by omega
                      have hCd : decide ((a : Int) < (s : Int)) = true := decide_eq_true hCz
                      have hDz : ¬ ((e : Int) < (b : Int)) := by omega
                      have hDd : decide ((e : Int) < (b : Int)) = false := decide_eq_false hDz
                      have hEz : (m : Int) < (e : Int) := by omega
                      have hEd : decide ((m : Int) < (e : Int)) = true := decide_eq_true hEz
                      have hFz : (mid : Int) < (e : Int) := by omega
                      have hFd : decide ((mid : Int) < (e : Int)) = true := decide_eq_true hFz
                      go_wp2_with fail
                      refine (HRT.out d os1 q s m e hs (by omega) (by omega) (by omega)).mono ?_
                      rintro ex w' ⟨rfl, q, os1, rfl⟩
                      have hd1 : rotI m b a s e d = rotL m (e - s) (m - s) (e - m) d := by unfold rotI; rw [if_pos ⟨hA, by omega⟩]; exact rotL_fuel m (e - s) (b - a) (m - s) (e - m) d (by omega) (by omega) (by omega) (by omega)
                      rw [← hd1]
                      have HD1 : Hid _ := hd1
                      clear hd1
                      have hz1 : (rotI m b a s e d).size = D.size := by unfold rotI; split <;> first | (rw [size_rotL]; exact hs) | exact hs
                      generalize hg1 : rotI m b a s e d = d1 at hz1 HD1 ⊢
                      have HG1 : Hid _ := hg1
                      clear hg1
                      go_wp2_with fail
                      refine (IH.out d1 os1 q a s mid hz1 hC hB (by omega) (by omega)).mono ?_
                      rintro ex w' ⟨rfl, q, os1, rfl⟩
                      have hz2 : (symM (ltOf cf) f a s mid d1).size = D.size := by rw [size_symM]; exact hz1
                      generalize hg2 : symM (ltOf cf) f a s mid d1 = d2 at hz2 ⊢
                      have HG2 : Hid _ := hg2
                      clear hg2
                      go_wp2
                      (try simp only [Exit.inBlock, Exit.then]); refine bodyPost_end (results_none rfl _ _ _) rfl ?_
                      refine ⟨rfl, q, os1, ?_⟩
                      rw [symM, if_neg hm1, if_neg hb1, ← HMID.out, ← HRI.out, ← HE.out, HG1.out]
                      unfold symM.symB symM.symE
                      rw [if_neg (by omega), if_pos ⟨hC, hB⟩, HG2.out]
                  · by_cases hD : e < b
                    · exfalso
                      omega
                    · have hAz : (s : Int) < (m : Int) := by omega
                      have hAd : decide ((s : Int) < (m : Int)) = true := decide_eq_true hAz
                      have hBz : (s : Int) < (mid : Int) := by omega
                      have hBd : decide ((s : Int) < (mid : Int)) = true := decide_eq_true hBz
                      have hCz : ¬ ((a : Int) < (s : Int)) := by omega
                      have hCd : decide ((a : Int) < (s : Int)) = false := decide_eq_false hCz
                      have hDz : ¬ ((e : Int) < (b : Int)) := by omega
                      have hDd : decide ((e : Int) < (b : Int)) = false := decide_eq_false hDz
                      have hEz : (m : Int) < (e : Int) := by omega
                      have hEd : decide ((m : Int) < (e : Int)) = true := decide_eq_true hEz
                      have hFz : (mid : Int) < (e : Int) := by omega
                      have hFd : decide ((mid : Int) < (e : Int)) = true := decide_eq_true hFz
                      go_wp2_with fail
                      refine (HRT.out d os1 q s m e hs (by omega) (by omega) (by omega)).mono ?_
                      rintro ex w' ⟨rfl, q, os1, rfl⟩
                      have hd1 : rotI m b a s e d = rotL m (e - s) (m - s) (e - m) d := by unfold rotI; rw [if_pos ⟨hA, by omega⟩]; exact rotL_fuel m (e - s) (b - a) (m - s) (e - m) d (by omega) (by omega) (by omega) (by omega)
                      rw [← hd1]
                      have HD1 : Hid _ := hd1
                      clear hd1
                      have hz1 : (rotI m b a s e d).size = D.size := by unfold rotI; split <;> first | (rw [size_rotL]; exact hs) | exact hs
                      generalize hg1 : rotI m b a s e d = d1 at hz1 HD1 ⊢
                      have HG1 : Hid _ := hg1
                      clear hg1
                      go_wp2
                      (try simp only [Exit.inBlock, Exit.then]); refine bodyPost_end (results_none rfl _ _ _) rfl ?_
                      refine ⟨rfl, q, os1, ?_⟩
                      rw [symM, if_neg hm1, if_neg hb1, ← HMID.out, ← HRI.out, ← HE.out, HG1.out]
                      unfold symM.symB symM.symE
                      rw [if_neg (by omega), if_neg (by omega)]
                · by_cases hC : a < s
                  · by_cases hD : e < b
                    · have hAz : (s : Int) < (m : Int) := by omega
                      have hAd : decide ((s : Int) < (m : Int)) = true := decide_eq_true hAz
                      have hBz : ¬ ((s : Int) < (mid : Int)) := by omega
                      have hBd : decide ((s : Int) < (mid : Int)) = false := decide_eq_false hBz
                      have hCz : (a : Int) < (s : Int) := by omega
                      have hCd : decide ((a : Int) < (s : Int)) = true := decide_eq_true hCz
                      have hDz : (e : Int) < (b : Int) := by omega
                      have hDd : decide ((e : Int) < (b : Int)) = true := decide_eq_true hDz
                      have hEz : ¬ ((m : Int) < (e : Int)) := by omega
                      have hEd : decide ((m : Int) < (e : Int)) = false := decide_eq_false hEz
                      have hFz : (mid : Int) < (e : Int) := by omega
                      have hFd : decide ((mid : Int) < (e : Int)) = true := decide_eq_true hFz
                      go_wp2_with fail
                      have hd1 : rotI m b a s e d = d := by unfold rotI; rw [if_neg (by omega)]
                      have hz1 : d.size = D.size := hs
                      obtain ⟨d1, hg1⟩ : ∃ d1, rotI m b a s e d = d1 := ⟨_, rfl⟩
                      obtain rfl : d = d1 := hd1.symm.trans hg1
                      have HG1 : Hid _ := hg1
                      clear hg1 hd1
                      refine (IH.out d os1 q mid e b hz1 (by omega) hD hbD (by omega)).mono ?_
                      rintro ex w' ⟨rfl, q, os1, rfl⟩
                      go_wp2
                      (try simp only [Exit.inBlock, Exit.then]); refine bodyPost_end (results_none rfl _ _ _) rfl ?_
                      refine ⟨rfl, q, os1, ?_⟩
                      rw [symM, if_neg hm1, if_neg hb1, ← HMID.out, ← HRI.out, ← HE.out, HG1.out]
                      unfold symM.symB symM.symE
                      rw [if_pos ⟨by omega, hD⟩, if_neg (by omega)]
                    · exfalso
                      omega
                  · by_cases hD : e < b
                    · exfalso
                      omega
                    · exfalso
                      omega
              · by_cases hB : s < mid
                · by_cases hC : a < s
                  · by_cases hD : e < b
                    · exfalso
                      omega
                    · exfalso
                      omega
                  · by_cases hD : e < b
                    · exfalso
                      omega
                    · exfalso
                      omega
                · by_cases hC : a < s
                  · by_cases hD : e < b
                    · exfalso
                      omega
                    · exfalso
                      omega
                  · by_cases hD : e < b
                    · exfalso
                      omega
                    · exfalso
                      omega
        · have hmmz : ¬ ((mid : Int) < (m : Int)) := by omega
          have HS0 : Hid (symS (ltOf cf) a m b d = bsr (fun c => !ltOf cf d[mid + m - 1 - c]! d[c]!) b a m) := by show _ = _; unfold symS; rw [← HMID.out, if_neg hmm]
          go_wp2_with fail
          go_loopg [20, 21, 23] (m - (a)) (fun gk vi vj vh wr => ∃ (i j q : Nat) (os1 : Array Obj), vi = .int .i64 i ∧ vj = .int .i64 j ∧ a ≤ i ∧ i ≤ j ∧ j ≤ m ∧ j - i ≤ gk ∧ wr = SW k enc w blk off q d os1 ∧ Hid (bsr (fun c => !ltOf cf d[mid + m - 1 - c]! d[c]!) (j - i) i j = symS (ltOf cf) a m b d))
          case atStart => exact ⟨a, m, n0, os, by go_num, by go_num, Nat.le_refl _, by omega, Nat.le_refl _, Nat.le_refl _, rfl, by rw [HS0.out]; exact (bsr_fuel _ _ b _ _ (Nat.le_refl _) (by omega)).symm⟩
          case round =>
            obtain ⟨i, j, q, os1, rfl, rfl, hmi, hij, hjb, hg, rfl, HR⟩ := hrel
            by_cases hlt : i < j
            · have hltz : (i : Int) < (j : Int) := by omega
              go_wp2_with fail
              obtain ⟨h, hh⟩ : ∃ h : Nat, h = (i + j) / 2 := ⟨_, rfl⟩
              have hhz : ((i : Int) + (j : Int)) / 2 = (h : Int) := by omega
              simp only [hhz]
              obtain ⟨W, cx, cy, cv, hW, hcv, hcx, hcy, lx, ly, hcg, hcls⟩ := HCF.out d os1 q (mid + m - 1 - h) (h) hs (by omega) (by omega)
              have CLS : Hid _ := hcls
              have HCV : Hid _ := hcv
              have hx0 : (0 : Int) ≤ (mid : Int) + (m : Int) - 1 - (h : Int) := by omega
              have hx1 : (mid : Int) + (m : Int) - 1 - (h : Int) < (D.size : Int) := by omega
              have hx2 : ((mid : Int) + (m : Int) - 1 - (h : Int)).toNat = mid + m - 1 - h := by omega
              have wx : IntKind.i64.wrap ((mid : Int) + (m : Int) - 1 - (h : Int)) = (mid : Int) + (m : Int) - 1 - (h : Int) := by rw [IntKind.wrap_i64]; omega
              have hz1 : (h : Int) < (D.size : Int) := by omega
              have hz3 : h < D.size := by omega
              have w1 : IntKind.i64.wrap ((h : Int) + 1) = (h : Int) + 1 := by rw [IntKind.wrap_i64]; omega
              have HH : Hid (h = (i + j) / 2) := hh
              clear hcls hh hhz hcv
              rw [hW]
              clear hW
              by_cases hlv : cv < 0
              · refine wp_region_quiet_grown (by assumption) (by kernel_rfl) ?_
                repeat (go_big_quiet_step (first | (go_at_fn g; refine Calls.grown_of (hcg _ _))))
                refine wpQuiet_nil ?_
                intro _ hw'
                obtain ⟨⟨nq, osq⟩, hw''⟩ := hw'
                subst hw''
                go_wp2
                go_roundg (h - i)
                case measure => have := HH.out; omega
                case rel =>
                  refine ⟨i, h, _, _, rfl, rfl, hmi, by have := HH.out; omega, by have := HH.out; omega, Nat.le_refl _, CLS.out nq osq, ?_⟩
                  show _ = _
                  rw [← HR.out]
                  obtain ⟨x, hx⟩ : ∃ x, j - i = x + 1 := ⟨j - i - 1, by omega⟩
                  rw [hx, bsr, if_pos hlt, ← HH.out, if_neg (show ¬ (!ltOf cf d[mid + m - 1 - h]! d[h]!) = true from by rw [show ltOf cf d[mid + m - 1 - h]! d[h]! = true from decide_eq_true (by rw [← HCV.out]; exact hlv)]; decide)]
                  exact (bsr_fuel _ _ x _ _ (Nat.le_refl _) (by have := HH.out; omega)).symm
              · refine wp_region_quiet_grown (by assumption) (by kernel_rfl) ?_
                repeat (go_big_quiet_step (first | (go_at_fn g; refine Calls.grown_of (hcg _ _))))
                refine wpQuiet_nil ?_
                intro _ hw'
                obtain ⟨⟨nq, osq⟩, hw''⟩ := hw'
                subst hw''
                go_wp2
                go_roundg (j - (h + 1))
                case measure => have := HH.out; omega
                case rel =>
                  refine ⟨h + 1, j, _, _, by go_num, rfl, by have := HH.out; omega, by have := HH.out; omega, hjb, Nat.le_refl _, CLS.out nq osq, ?_⟩
                  show _ = _
                  rw [← HR.out]
                  obtain ⟨x, hx⟩ : ∃ x, j - i = x + 1 := ⟨j - i - 1, by omega⟩
                  rw [hx, bsr, if_pos hlt, ← HH.out, if_pos (show (!ltOf cf d[mid + m - 1 - h]! d[h]!) = true from by rw [show ltOf cf d[mid + m - 1 - h]! d[h]! = false from decide_eq_false (by rw [← HCV.out]; omega)]; decide)]
                  exact (bsr_fuel _ _ x _ _ (Nat.le_refl _) (by have := HH.out; omega)).symm
            · have hltz : ¬ (i : Int) < (j : Int) := by omega
              obtain rfl : i = j := by omega
              have hri : i = symS (ltOf cf) a m b d := by
                have h := HR.out
                rw [show i - i = 0 by omega] at h
                exact h
              have HRI : Hid _ := hri
              clear hri HR hlt hltz hij
              go_upto_region 39 with (fail)
              obtain ⟨s, hsI⟩ : ∃ s, s = i := ⟨_, rfl⟩
              subst hsI
              obtain ⟨e, he⟩ : ∃ e : Nat, e = mid + m - s := ⟨_, rfl⟩
              have hez : (mid : Int) + (m : Int) - (s : Int) = (e : Int) := by omega
              simp only [hez]
              have HE : Hid (e = mid + m - s) := he
              have hsb : s ≤ mid + m := by omega
              have he1 : e + s = mid + m := by omega
              clear he hez
              by_cases hA : s < m
              · by_cases hB : s < mid
                · by_cases hC : a < s
                  · by_cases hD : e < b
                    · have hAz : (s : Int) < (m : Int) := by omega
                      have hAd : decide ((s : Int) < (m : Int)) = true := decide_eq_true hAz
                      have hBz : (s : Int) < (mid : Int) := by omega
                      have hBd : decide ((s : Int) < (mid : Int)) = true := decide_eq_true hBz
                      have hCz : (a : Int) < (s : Int) := by omega
                      have hCd : decide ((a : Int) < (s : Int)) = true := decide_eq_true hCz
                      have hDz : (e : Int) < (b : Int) := by omega
                      have hDd : decide ((e : Int) < (b : Int)) = true := decide_eq_true hDz
                      have hEz : (m : Int) < (e : Int) := by omega
                      have hEd : decide ((m : Int) < (e : Int)) = true := decide_eq_true hEz
                      have hFz : (mid : Int) < (e : Int) := by omega
                      have hFd : decide ((mid : Int) < (e : Int)) = true := decide_eq_true hFz
                      go_wp2_with fail
                      refine (HRT.out d os1 q s m e hs (by omega) (by omega) (by omega)).mono ?_
                      rintro ex w' ⟨rfl, q, os1, rfl⟩
                      have hd1 : rotI m b a s e d = rotL m (e - s) (m - s) (e - m) d := by unfold rotI; rw [if_pos ⟨hA, by omega⟩]; exact rotL_fuel m (e - s) (b - a) (m - s) (e - m) d (by omega) (by omega) (by omega) (by omega)
                      rw [← hd1]
                      have HD1 : Hid _ := hd1
                      clear hd1
                      have hz1 : (rotI m b a s e d).size = D.size := by unfold rotI; split <;> first | (rw [size_rotL]; exact hs) | exact hs
                      generalize hg1 : rotI m b a s e d = d1 at hz1 HD1 ⊢
                      have HG1 : Hid _ := hg1
                      clear hg1
                      go_wp2_with fail
                      refine (IH.out d1 os1 q a s mid hz1 hC hB (by omega) (by omega)).mono ?_
                      rintro ex w' ⟨rfl, q, os1, rfl⟩
                      have hz2 : (symM (ltOf cf) f a s mid d1).size = D.size := by rw [size_symM]; exact hz1
                      generalize hg2 : symM (ltOf cf) f a s mid d1 = d2 at hz2 ⊢
                      have HG2 : Hid _ := hg2
                      clear hg2
                      go_wp2_with fail
                      refine (IH.out d2 os1 q mid e b hz2 (by omega) hD hbD (by omega)).mono ?_
                      rintro ex w' ⟨rfl, q, os1, rfl⟩
                      go_wp2
                      (try simp only [Exit.inBlock, Exit.then]); refine bodyPost_end (results_none rfl _ _ _) rfl ?_
                      refine ⟨rfl, q, os1, ?_⟩
                      rw [symM, if_neg hm1, if_neg hb1, ← HMID.out, ← HRI.out, ← HE.out, HG1.out]
                      unfold symM.symB symM.symE
                      rw [if_pos ⟨by omega, hD⟩, if_pos ⟨hC, hB⟩, HG2.out]
                    · exfalso
                      omega
                  · by_cases hD : e < b
                    · have hAz : (s : Int) < (m : Int) := by omega
                      have hAd : decide ((s : Int) < (m : Int)) = true := decide_eq_true hAz
                      have hBz : (s : Int) < (mid : Int) := by omega
                      have hBd : decide ((s : Int) < (mid : Int)) = true := decide_eq_true hBz
                      have hCz : ¬ ((a : Int) < (s : Int)) := by omega
                      have hCd : decide ((a : Int) < (s : Int)) = false := decide_eq_false hCz
                      have hDz : (e : Int) < (b : Int) := by omega
                      have hDd : decide ((e : Int) < (b : Int)) = true := decide_eq_true hDz
                      have hEz : (m : Int) < (e : Int) := by omega
                      have hEd : decide ((m : Int) < (e : Int)) = true := decide_eq_true hEz
                      have hFz : (mid : Int) < (e : Int) := by omega
                      have hFd : decide ((mid : Int) < (e : Int)) = true := decide_eq_true hFz
                      go_wp2_with fail
                      refine (HRT.out d os1 q s m e hs (by omega) (by omega) (by omega)).mono ?_
                      rintro ex w' ⟨rfl, q, os1, rfl⟩
                      have hd1 : rotI m b a s e d = rotL m (e - s) (m - s) (e - m) d := by unfold rotI; rw [if_pos ⟨hA, by omega⟩]; exact rotL_fuel m (e - s) (b - a) (m - s) (e - m) d (by omega) (by omega) (by omega) (by omega)
                      rw [← hd1]
                      have HD1 : Hid _ := hd1
                      clear hd1
                      have hz1 : (rotI m b a s e d).size = D.size := by unfold rotI; split <;> first | (rw [size_rotL]; exact hs) | exact hs
                      generalize hg1 : rotI m b a s e d = d1 at hz1 HD1 ⊢
                      have HG1 : Hid _ := hg1
                      clear hg1
                      go_wp2_with fail
                      refine (IH.out d1 os1 q mid e b hz1 (by omega) hD hbD (by omega)).mono ?_
                      rintro ex w' ⟨rfl, q, os1, rfl⟩
                      go_wp2
                      (try simp only [Exit.inBlock, Exit.then]); refine bodyPost_end (results_none rfl _ _ _) rfl ?_
                      refine ⟨rfl, q, os1, ?_⟩
                      rw [symM, if_neg hm1, if_neg hb1, ← HMID.out, ← HRI.out, ← HE.out, HG1.out]
                      unfold symM.symB symM.symE
                      rw [if_pos ⟨by omega, hD⟩, if_neg (by omega)]
                    · have hAz : (s : Int) < (m : Int) := by omega
                      have hAd : decide ((s : Int) < (m : Int)) = true := decide_eq_true hAz
                      have hBz : (s : Int) < (mid : Int) := by omega
                      have hBd : decide ((s : Int) < (mid : Int)) = true := decide_eq_true hBz
                      have hCz : ¬ ((a : Int) < (s : Int)) := by omega
                      have hCd : decide ((a : Int) < (s : Int)) = false := decide_eq_false hCz
                      have hDz : ¬ ((e : Int) < (b : Int)) := by omega
                      have hDd : decide ((e : Int) < (b : Int)) = false := decide_eq_false hDz
                      have hEz : (m : Int) < (e : Int) := by omega
                      have hEd : decide ((m : Int) < (e : Int)) = true := decide_eq_true hEz
                      have hFz : (mid : Int) < (e : Int) := by omega
                      have hFd : decide ((mid : Int) < (e : Int)) = true := decide_eq_true hFz
                      go_wp2_with fail
                      refine (HRT.out d os1 q s m e hs (by omega) (by omega) (by omega)).mono ?_
                      rintro ex w' ⟨rfl, q, os1, rfl⟩
                      have hd1 : rotI m b a s e d = rotL m (e - s) (m - s) (e - m) d := by unfold rotI; rw [if_pos ⟨hA, by omega⟩]; exact rotL_fuel m (e - s) (b - a) (m - s) (e - m) d (by omega) (by omega) (by omega) (by omega)
                      rw [← hd1]
                      have HD1 : Hid _ := hd1
                      clear hd1
                      have hz1 : (rotI m b a s e d).size = D.size := by unfold rotI; split <;> first | (rw [size_rotL]; exact hs) | exact hs
                      generalize hg1 : rotI m b a s e d = d1 at hz1 HD1 ⊢
                      have HG1 : Hid _ := hg1
                      clear hg1
                      go_wp2
                      (try simp only [Exit.inBlock, Exit.then]); refine bodyPost_end (results_none rfl _ _ _) rfl ?_
                      refine ⟨rfl, q, os1, ?_⟩
                      rw [symM, if_neg hm1, if_neg hb1, ← HMID.out, ← HRI.out, ← HE.out, HG1.out]
                      unfold symM.symB symM.symE
                      rw [if_neg (by omega), if_neg (by omega)]
                · by_cases hC : a < s
                  · by_cases hD : e < b
                    · exfalso
                      omega
                    · exfalso
                      omega
                  · by_cases hD : e < b
                    · exfalso
                      omega
                    · exfalso
                      omega
              · by_cases hB : s < mid
                · by_cases hC : a < s
                  · by_cases hD : e < b
                    · have hAz : ¬ ((s : Int) < (m : Int)) := by omega
                      have hAd : decide ((s : Int) < (m : Int)) = false := decide_eq_false hAz
                      have hBz : (s : Int) < (mid : Int) := by omega
                      have hBd : decide ((s : Int) < (mid : Int)) = true := decide_eq_true hBz
                      have hCz : (a : Int) < (s : Int) := by omega
                      have hCd : decide ((a : Int) < (s : Int)) = true := decide_eq_true hCz
                      have hDz : (e : Int) < (b : Int) := by omega
                      have hDd : decide ((e : Int) < (b : Int)) = true := decide_eq_true hDz
                      have hEz : (m : Int) < (e : Int) := by omega
                      have hEd : decide ((m : Int) < (e : Int)) = true := decide_eq_true hEz
                      have hFz : ¬ ((mid : Int) < (e : Int)) := by omega
                      have hFd : decide ((mid : Int) < (e : Int)) = false := decide_eq_false hFz
                      go_wp2_with fail
                      have hd1 : rotI m b a s e d = d := by unfold rotI; rw [if_neg (by omega)]
                      have hz1 : d.size = D.size := hs
                      obtain ⟨d1, hg1⟩ : ∃ d1, rotI m b a s e d = d1 := ⟨_, rfl⟩
                      obtain rfl : d = d1 := hd1.symm.trans hg1
                      have HG1 : Hid _ := hg1
                      clear hg1 hd1
                      refine (IH.out d os1 q a s mid hz1 hC hB (by omega) (by omega)).mono ?_
                      rintro ex w' ⟨rfl, q, os1, rfl⟩
                      have hz2 : (symM (ltOf cf) f a s mid d).size = D.size := by rw [size_symM]; exact hz1
                      generalize hg2 : symM (ltOf cf) f a s mid d = d2 at hz2 ⊢
                      have HG2 : Hid _ := hg2
                      clear hg2
                      go_wp2
                      (try simp only [Exit.inBlock, Exit.then]); refine bodyPost_end (results_none rfl _ _ _) rfl ?_
                      refine ⟨rfl, q, os1, ?_⟩
                      rw [symM, if_neg hm1, if_neg hb1, ← HMID.out, ← HRI.out, ← HE.out, HG1.out]
                      unfold symM.symB symM.symE
                      rw [if_neg (by omega), if_pos ⟨hC, hB⟩, HG2.out]
                    · exfalso
                      omega
                  · by_cases hD : e < b
                    · exfalso
                      omega
                    · exfalso
                      omega
                · by_cases hC : a < s
                  · by_cases hD : e < b
                    · have hAz : ¬ ((s : Int) < (m : Int)) := by omega
                      have hAd : decide ((s : Int) < (m : Int)) = false := decide_eq_false hAz
                      have hBz : ¬ ((s : Int) < (mid : Int)) := by omega
                      have hBd : decide ((s : Int) < (mid : Int)) = false := decide_eq_false hBz
                      have hCz : (a : Int) < (s : Int) := by omega
                      have hCd : decide ((a : Int) < (s : Int)) = true := decide_eq_true hCz
                      have hDz : (e : Int) < (b : Int) := by omega
                      have hDd : decide ((e : Int) < (b : Int)) = true := decide_eq_true hDz
                      have hEz : ¬ ((m : Int) < (e : Int)) := by omega
                      have hEd : decide ((m : Int) < (e : Int)) = false := decide_eq_false hEz
                      have hFz : ¬ ((mid : Int) < (e : Int)) := by omega
                      have hFd : decide ((mid : Int) < (e : Int)) = false := decide_eq_false hFz
                      go_wp2
                      have hd1 : rotI m b a s e d = d := by unfold rotI; rw [if_neg (by omega)]
                      have hz1 : d.size = D.size := hs
                      obtain ⟨d1, hg1⟩ : ∃ d1, rotI m b a s e d = d1 := ⟨_, rfl⟩
                      obtain rfl : d = d1 := hd1.symm.trans hg1
                      have HG1 : Hid _ := hg1
                      clear hg1 hd1
                      (try simp only [Exit.inBlock, Exit.then]); refine bodyPost_end (results_none rfl _ _ _) rfl ?_
                      refine ⟨rfl, q, os1, ?_⟩
                      rw [symM, if_neg hm1, if_neg hb1, ← HMID.out, ← HRI.out, ← HE.out, HG1.out]
                      unfold symM.symB symM.symE
                      rw [if_neg (by omega), if_neg (by omega)]
                    · exfalso
                      omega
                  · by_cases hD : e < b
                    · exfalso
                      omega
                    · exfalso
                      omega
end Go.Proofs.Ytgghglocfdcegaa.Stab
