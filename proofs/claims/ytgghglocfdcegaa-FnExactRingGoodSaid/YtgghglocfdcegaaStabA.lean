/- Go's slices.swapRangeCmpFunc and rotateCmpFunc walked, over any program that bears them under this seat's numbers. -/
import Derived.Test.YtgghglocfdcegaaProg
import Derived.Test.YtgghglocfdcegaaStabM
namespace Go.Proofs.Ytgghglocfdcegaa.Stab
open Go Go.Proofs Go.Shelf Go.RowKit Go.Lib Go.Sort
variable {α : Type} [Inhabited α]
/-- What is asked of the program: the functions of the stable sort, under this seat's numbers, and their types; an element has k cells. -/
structure Lay (P : Program) (k : Nat) : Prop where
  mixed : P.follows .mixedOrders = true
  f70 : P.funcs[70]? = some Try.f70
  f93 : P.funcs[93]? = some Try.f93
  f99 : P.funcs[99]? = some Try.f99
  f100 : P.funcs[100]? = some Try.f100
  f101 : P.funcs[101]? = some Try.f101
  t0 : P.underlying 0 = some (TypeDesc.tuple #[])
  a0 : ∀ w, (isAgg 0).run P w = .ok false w
  z0 : ∀ w, (Go.sizeOf 0).run P w = .ok 1 w
  v0 : ∀ w, (zeroValue 0).run P w = .ok (Value.tuple #[]) w
  t3 : P.underlying 3 = some (TypeDesc.int IntKind.i64)
  a3 : ∀ w, (isAgg 3).run P w = .ok false w
  z3 : ∀ w, (Go.sizeOf 3).run P w = .ok 1 w
  v3 : ∀ w, (zeroValue 3).run P w = .ok (Value.int IntKind.i64 0) w
  t111 : P.underlying 111 = some (TypeDesc.int IntKind.u64)
  a111 : ∀ w, (isAgg 111).run P w = .ok false w
  z111 : ∀ w, (Go.sizeOf 111).run P w = .ok 1 w
  v111 : ∀ w, (zeroValue 111).run P w = .ok (Value.int IntKind.u64 0) w
  t4 : P.underlying 4 = some (TypeDesc.bool)
  a4 : ∀ w, (isAgg 4).run P w = .ok false w
  z4 : ∀ w, (Go.sizeOf 4).run P w = .ok 1 w
  v4 : ∀ w, (zeroValue 4).run P w = .ok (Value.bool false) w
  t60 : P.underlying 60 = some (TypeDesc.slice 89)
  a60 : ∀ w, (isAgg 60).run P w = .ok false w
  z60 : ∀ w, (Go.sizeOf 60).run P w = .ok 1 w
  v60 : ∀ w, (zeroValue 60).run P w = .ok (Value.slice none 0 0) w
  t94 : P.underlying 94 = some (TypeDesc.func #[89, 89] #[3] false)
  a94 : ∀ w, (isAgg 94).run P w = .ok false w
  z94 : ∀ w, (Go.sizeOf 94).run P w = .ok 1 w
  v94 : ∀ w, (zeroValue 94).run P w = .ok (Value.nilFunc) w
  aE : ∀ w, (isAgg 89).run P w = .ok true w
  zE : ∀ w, (Go.sizeOf 89).run P w = .ok k w
theorem layTry : Lay Try.prog 8 where
  mixed := by kernel_rfl
  f70 := Try.func70
  f93 := Try.func93
  f99 := Try.func99
  f100 := Try.func100
  f101 := Try.func101
  t0 := Try.underlying0
  a0 := Try.isAgg0
  z0 := Try.sizeOf0
  v0 := Try.zeroValue0
  t3 := Try.underlying3
  a3 := Try.isAgg3
  z3 := Try.sizeOf3
  v3 := Try.zeroValue3
  t111 := Try.underlying111
  a111 := Try.isAgg111
  z111 := Try.sizeOf111
  v111 := Try.zeroValue111
  t4 := Try.underlying4
  a4 := Try.isAgg4
  z4 := Try.sizeOf4
  v4 := Try.zeroValue4
  t60 := Try.underlying60
  a60 := Try.isAgg60
  z60 := Try.sizeOf60
  v60 := Try.zeroValue60
  t94 := Try.underlying94
  a94 := Try.isAgg94
  z94 := Try.sizeOf94
  v94 := Try.zeroValue94
  aE := Try.isAgg89
  zE := Try.sizeOf89
variable {P : Program} {k : Nat}
abbrev SW (k : Nat) (enc : α → List Value) (w : World) (blk off : Nat) (m : Nat) (d : Array α) (os : Array Obj) : World := sortWorldK enc k w blk off m d os
/-- The facts of an exchange: two loads, two runs of stores, and the world behind them. -/
theorem swap_facts (enc : α → List Value) (w : World) (blk off : Nat) (D dj : Array α) (os : Array Obj) (m i j : Nat) (hk : ∀ x, (enc x).length = k) (h1 : ∀ x, ∀ v ∈ enc x, v.oneCell' = true)
    (hH : HoldsK enc k w blk off D) (hblk : blk < w.heap.size) (hs : dj.size = D.size) (hi : i < D.size) (hj : j < D.size) :
    ∃ (W : World) (ci cj : List Value), (SW k enc w blk off m dj os).drew = W ∧ ci.length = k ∧ cj.length = k ∧
      Sem.run P (loadCellsFrom ⟨blk, off + i * k, none⟩ 0 k #[]) W = .ok ci.toArray W ∧
      Sem.run P (loadCellsFrom ⟨blk, off + j * k, none⟩ 0 k #[]) W = .ok cj.toArray W ∧
      Sem.run P (storeCells ⟨blk, off + i * k, none⟩ cj 0) W = .ok () (W.setCells blk (off + i * k) cj) ∧
      Sem.run P (storeCells ⟨blk, off + j * k, none⟩ ci 0) (W.setCells blk (off + i * k) cj) = .ok () ((W.setCells blk (off + i * k) cj).setCells blk (off + j * k) ci) ∧
      (W.setCells blk (off + i * k) cj).setCells blk (off + j * k) ci = SW k enc w blk off (m + 1) (swp dj i j) os := by
  have hHd : HoldsK enc k (SW k enc w blk off m dj os).drew blk off dj := holdsK_sortWorldK_c enc k w blk off D dj m os hH hblk hs
  have bnd : ∀ x, x < dj.size → x * k + k ≤ dj.size * k := fun x hx => by
    have := Nat.mul_le_mul_right k (show x + 1 ≤ dj.size from hx)
    rwa [Nat.add_mul, Nat.one_mul] at this
  refine ⟨_, enc dj[i]!, enc dj[j]!, rfl, hk _, hk _, ?_, ?_, ?_, ?_, ?_⟩
  · exact run_loadCellsFrom_list P _ _ _ k (hk _) (HoldsK.cells hHd hk (by omega))
  · exact run_loadCellsFrom_list P _ _ _ k (hk _) (HoldsK.cells hHd hk (by omega))
  · exact stores_of_holds P hHd (i * k) _ (by rw [hk, size_flatK]; exact bnd i (by omega)) (h1 _)
  · exact stores_of_holds P (holds_setCells_c hHd (i * k) _ (by rw [hk, size_flatK]; exact bnd i (by omega))) (j * k) _ (by rw [hk, size_setMany, size_flatK]; exact bnd j (by omega)) (h1 _)
  · exact sortWorldK_swp_c enc k w blk off hk m dj os hblk i j (by omega) (by omega)
set_option maxHeartbeats 4000000 in
set_option maxRecDepth 1000000 in
theorem swapR_calls (L : Lay P k) (enc : α → List Value) (w : World) (blk off cap : Nat) (D d : Array α) (os : Array Obj) (n0 a b n g : Nat) (cb : Array Value) (hk : ∀ x, (enc x).length = k) (h1 : ∀ x, ∀ v ∈ enc x, v.oneCell' = true)
    (hH : HoldsK enc k w blk off D) (hblk : blk < w.heap.size) (hs : d.size = D.size) (ha : a + n ≤ D.size) (hb : b + n ≤ D.size) (hsz : D.size < 4611686018427387904) :
    Calls P 101 #[.slice (some ⟨blk, off, none⟩) D.size cap, .int .i64 a, .int .i64 b, .int .i64 n, .func (.func g) #[] cb] (SW k enc w blk off n0 d os) fun e w' =>
      e = .returned (.tuple #[]) ∧ ∃ n1 os1, w' = SW k enc w blk off n1 (swapR d a b n) os1 := by
  have mixed := L.mixed; have t0 := L.t0; have a0 := L.a0; have z0 := L.z0; have v0 := L.v0; have t3 := L.t3; have a3 := L.a3; have z3 := L.z3; have v3 := L.v3; have t4 := L.t4; have a4 := L.a4; have z4 := L.z4; have v4 := L.v4; have t60 := L.t60; have a60 := L.a60; have z60 := L.z60; have v60 := L.v60; have t94 := L.t94; have a94 := L.a94; have z94 := L.z94; have v94 := L.v94; have aE := L.aE; have zE := L.zE
  have u60 := run_underlying L.t60
  have HH : Hid (HoldsK enc k w blk off D) := hH
  have HK : Hid (∀ x, (enc x).length = k) := hk
  have H1 : Hid (∀ x, ∀ v ∈ enc x, v.oneCell' = true) := h1
  clear hH hk h1
  go_enter L.f101, Try.ntmps101
  go_wp2
  go_loopg [10] n (fun gk vi wr => ∃ (i m : Nat) (os1 : Array Obj), vi = .int .i64 i ∧ i ≤ n ∧ n - i ≤ gk ∧ wr = SW k enc w blk off m (swapR d a b i) os1)
  case atStart => exact ⟨0, n0, os, rfl, by omega, by omega, rfl⟩
  case round =>
    obtain ⟨i, m, os1, rfl, hi, hg, rfl⟩ := hrel
    by_cases hlt : i < n
    · have hltz : (i : Int) < (n : Int) := by omega
      go_wp2_with fail
      obtain ⟨W, ci, cj, hW, hci, hcj, lp, lj, s1, s2, hfin⟩ := swap_facts (P := P) enc w blk off D (swapR d a b i) os1 m (a + i) (b + i) HK.out H1.out HH.out hblk (by rw [size_swapR]; exact hs) (by omega) (by omega)
      have HF : Hid _ := hfin
      have HW : Hid _ := hW
      clear hfin hW
      have wa : IntKind.i64.wrap ((a : Int) + (i : Int)) = (a : Int) + (i : Int) := by rw [IntKind.wrap_i64]; omega
      have wb : IntKind.i64.wrap ((b : Int) + (i : Int)) = (b : Int) + (i : Int) := by rw [IntKind.wrap_i64]; omega
      have a0 : (0 : Int) ≤ (a : Int) + (i : Int) := by omega
      have b0 : (0 : Int) ≤ (b : Int) + (i : Int) := by omega
      have a1 : (a : Int) + (i : Int) < (D.size : Int) := by omega
      have b1 : (b : Int) + (i : Int) < (D.size : Int) := by omega
      have a2 : ((a : Int) + (i : Int)).toNat = a + i := by omega
      have b2 : ((b : Int) + (i : Int)).toNat = b + i := by omega
      generalize SW k enc w blk off m (swapR d a b i) os1 = wq at HW ⊢
      have HW' := HW.out
      subst HW'
      go_big_region_o
      go_wp2
      go_roundg (n - (i + 1))
      case measure => omega
      case rel => exact ⟨i + 1, m + 1, os1, by go_num, by omega, Nat.le_refl _, HF.out⟩
    · have hltz : ¬ (i : Int) < (n : Int) := by omega
      go_wp2
      go_end0
      obtain rfl : i = n := by omega
      exact ⟨rfl, _, _, rfl⟩

set_option maxHeartbeats 4000000 in
set_option maxRecDepth 1000000 in
theorem rotL_calls (L : Lay P k) (enc : α → List Value) (w : World) (blk off cap : Nat) (D d : Array α) (os : Array Obj) (n0 a m b g : Nat) (cb : Array Value) (hk : ∀ x, (enc x).length = k) (h1 : ∀ x, ∀ v ∈ enc x, v.oneCell' = true)
    (hH : HoldsK enc k w blk off D) (hblk : blk < w.heap.size) (hs : d.size = D.size) (ha : a < m) (hb : m < b) (hbD : b ≤ D.size) (hsz : D.size < 4611686018427387904) :
    Calls P 100 #[.slice (some ⟨blk, off, none⟩) D.size cap, .int .i64 a, .int .i64 m, .int .i64 b, .func (.func g) #[] cb] (SW k enc w blk off n0 d os) fun e w' =>
      e = .returned (.tuple #[]) ∧ ∃ n1 os1, w' = SW k enc w blk off n1 (rotL m (b - a) (m - a) (b - m) d) os1 := by
  have mixed := L.mixed; have t0 := L.t0; have a0 := L.a0; have z0 := L.z0; have v0 := L.v0; have t3 := L.t3; have a3 := L.a3; have z3 := L.z3; have v3 := L.v3; have t4 := L.t4; have a4 := L.a4; have z4 := L.z4; have v4 := L.v4; have t60 := L.t60; have a60 := L.a60; have z60 := L.z60; have v60 := L.v60; have t94 := L.t94; have a94 := L.a94; have z94 := L.z94; have v94 := L.v94; have aE := L.aE; have zE := L.zE
  have u60 := run_underlying L.t60
  have hsw : ∀ (os1 : Array Obj) (m1 : Nat) (dk : Array α) (x y n : Nat), dk.size = D.size → x + n ≤ D.size → y + n ≤ D.size → Calls P 101 #[.slice (some ⟨blk, off, none⟩) D.size cap, .int .i64 x, .int .i64 y, .int .i64 n, .func (.func g) #[] cb] (SW k enc w blk off m1 dk os1) fun e w' =>
      e = .returned (.tuple #[]) ∧ ∃ n1 os2, w' = SW k enc w blk off n1 (swapR dk x y n) os2 := fun os1 m1 dk x y n h2 h3 h4 => swapR_calls L enc w blk off cap D dk os1 m1 x y n g cb hk h1 hH hblk h2 h3 h4 hsz
  have HS : Hid _ := hsw
  have e101 : ∀ args w, (callFunc 101 args).run P w = .ok (.enter 101 args) w := enters_of L.f101 (by kernel_rfl) rfl
  clear hsw hH hk h1
  have wa : IntKind.i64.wrap ((m : Int) - (a : Int)) = (m : Int) - (a : Int) := by rw [IntKind.wrap_i64]; omega
  have wb : IntKind.i64.wrap ((b : Int) - (m : Int)) = (b : Int) - (m : Int) := by rw [IntKind.wrap_i64]; omega
  go_enter L.f100, Try.ntmps100
  go_wp2
  go_loopg [10, 11] (b - a) (fun gk vi vj wr => ∃ (i j q : Nat) (dk : Array α) (os1 : Array Obj), vi = .int .i64 i ∧ vj = .int .i64 j ∧ 0 < i ∧ 0 < j ∧ i ≤ m - a ∧ j ≤ b - m ∧ i + j ≤ gk ∧ dk.size = D.size ∧ wr = SW k enc w blk off q dk os1 ∧ Hid (rotL m (i + j) i j dk = rotL m (b - a) (m - a) (b - m) d))
  case atStart => exact ⟨m - a, b - m, n0, d, os, by go_num, by go_num, by omega, by omega, by omega, by omega, by omega, hs, rfl, by show _ = _; rw [show m - a + (b - m) = b - a by omega]⟩
  case round =>
    obtain ⟨i, j, q, dk, os1, rfl, rfl, hi0, hj0, hi, hj, hg, hsk, rfl, HR⟩ := hrel
    by_cases hij : i = j
    · subst hij
      go_wp2_with fail
      have hc := HS.out os1 q dk (m - i) m i hsk (by omega) (by omega)
      rw [show ((m - i : Nat) : Int) = (m : Int) - (i : Int) by omega] at hc
      refine hc.mono ?_
      rintro e w' ⟨rfl, n1, os2, rfl⟩
      go_wp2
      go_end0
      refine ⟨rfl, n1, os2, ?_⟩
      have h := HR.out
      obtain ⟨x, hx⟩ : ∃ x, i + i = x + 1 := ⟨i + i - 1, by omega⟩
      rw [hx, rotL, if_pos rfl] at h
      rw [h]
    · have hne : ¬ ((i : Int) = (j : Int)) := by omega
      obtain ⟨x, hx⟩ : ∃ x, i + j = x + 1 := ⟨i + j - 1, by omega⟩
      by_cases hji : j < i
      · have hjz : (j : Int) < (i : Int) := by omega
        go_wp2_with fail
        have hc := HS.out os1 q dk (m - i) m j hsk (by omega) (by omega)
        rw [show ((m - i : Nat) : Int) = (m : Int) - (i : Int) by omega] at hc
        refine hc.mono ?_
        rintro e w' ⟨rfl, n1, os2, rfl⟩
        go_wp2
        go_roundg (i - j + j)
        case measure => omega
        case rel =>
          refine ⟨i - j, j, n1, _, os2, by go_num, rfl, by omega, hj0, by omega, hj, Nat.le_refl _, by rw [size_swapR]; exact hsk, rfl, ?_⟩
          show _ = _
          have h := HR.out
          rw [hx, rotL, if_neg hij, if_pos hji] at h
          rw [← h]
          exact (rotL_fuel m (i - j + j) x (i - j) j _ (by omega) hj0 (Nat.le_refl _) (by omega)).symm
      · have hjz : ¬ (j : Int) < (i : Int) := by omega
        go_wp2_with fail
        have hc := HS.out os1 q dk (m - i) (m + j - i) i hsk (by omega) (by omega)
        rw [show ((m - i : Nat) : Int) = (m : Int) - (i : Int) by omega, show ((m + j - i : Nat) : Int) = (m : Int) + (j : Int) - (i : Int) by omega] at hc
        refine hc.mono ?_
        rintro e w' ⟨rfl, n1, os2, rfl⟩
        go_wp2
        go_roundg (i + (j - i))
        case measure => omega
        case rel =>
          refine ⟨i, j - i, n1, _, os2, rfl, by go_num, hi0, by omega, hi, by omega, Nat.le_refl _, by rw [size_swapR]; exact hsk, rfl, ?_⟩
          show _ = _
          have h := HR.out
          rw [hx, rotL, if_neg hij, if_neg hji] at h
          rw [← h]
          exact (rotL_fuel m (i + (j - i)) x i (j - i) _ hi0 (by omega) (Nat.le_refl _) (by omega)).symm
end Go.Proofs.Ytgghglocfdcegaa.Stab
