-- Written by the session's own patched copy of the printer (wip/patch_print.py).
import Derived.Test.YtjikobdblohphaaPFnListOnex0
import Derived.Test.YtjikobdblohphaaPFnListOnex1
import Derived.Test.YtjikobdblohphaaPFnListOnex3
namespace Go.Proofs.Ytjikobdblohphaa.PFnListOne
open Go.RowKit Go.Proofs.YtjikobdblohphaaW.PrintWords Go.Proofs.YtjikobdblohphaaW.PrintLast Go.Proofs.YtjikobdblohphaaW.PrintMore
attribute [local go_sem] max2_int min2_int max_two min_two max_three min_three max_four min_four   -- for this text's walks alone
set_option linter.unusedVariables false
set_option linter.unusedSimpArgs false

theorem Z6j {w : World} {g : Nat} {t : TypeId} {cs : Array Value} (h : w.heap[g]? = some (.cells cs t (0, 0))) (i : Nat) (v : Value) (e : cs[i]? = some v := by rfl) : w.cell? ⟨g, i, none⟩ = some v := (blk_cell h i).trans e
theorem Z6a {p : Prop} (h : p) : Aside0 p := ⟨h⟩
theorem Z6k {w : World} {g : Nat} {t : TypeId} {cs : Array Value} (h : w.heap[g]? = some (.cells cs t (0, 0))) (i : Nat) : w.frozen? ⟨g, i, none⟩ = false := blk_frozen h i
theorem Z6c {P : Program} {ops : Array Oper} {Q : Exit → Act → World → Prop} {md : Region.Mode} {S : World → Prop} {ds : List Nat} (i n : Nat) {oi : Oper} {v : Value} {fuel : Nat} {l : Array Bool} {a : Act} {w : World} (l' : Array Bool) {a' : Act} (h : wpAnyLast P md ops Q S ds fuel l' a' w) (hi : ops[i]? = some oi := by rfl) (hN : oi.dst = some n := by rfl) (hc : anyB md ops l l' i = true := by exact any_of HT_.out (by kernel_rfl)) (hQ : ∀ c a w, Q (.panic c) (a.put oi.dst v) w → Q (.panic c) a w := by exact fun _ _ _ h => h) (hy : Yields P ops oi v a := by refine Or.inl ⟨by rfl, ?_⟩; intro w'; go_simp; with_reducible rfl) (ha : a.put (some n) v = a' := by simp only [Act.put, List.setIfInBounds_toArray, List.set_cons_zero, List.set_cons_succ, i64_w, i32_w]; rfl) : wpAnyLast P md ops Q S ds (fuel + 1) l a w := pure_ (N := some n) l' hi hN hc hQ hy ha h
theorem Z6l {P : Program} {ops : Array Oper} {Q : Exit → Act → World → Prop} {md : Region.Mode} {S : World → Prop} {ds : List Nat} (i n : Nat) {oi : Oper} {fuel : Nat} {l : Array Bool} {a : Act} {w : World} (l' : Array Bool) {a' : Act} (h : wpAnyLast P md ops Q S ds fuel l' a' w) (hi : ops[i]? = some oi := by rfl) (hN : oi.dst = some n := by rfl) (hc : anyB md ops l l' i = true := by exact any_of HT_.out (by kernel_rfl)) (hQ : ∀ c a w, Q (.panic c) (a.put oi.dst undef) w → Q (.panic c) a w := by exact fun _ _ _ h => h) (hy : Yields P ops oi undef a := by exact Or.inr ⟨by rfl, rfl⟩) (ha : a.put (some n) undef = a' := by simp only [Act.put, List.setIfInBounds_toArray, List.set_cons_zero, List.set_cons_succ, i64_w, i32_w]; rfl) : wpAnyLast P md ops Q S ds (fuel + 1) l a w := pure_ (N := some n) l' hi hN hc hQ hy ha h
open Bool renaming true → T, false → F
theorem Z6d {p : Prop} (h : p := by repeat (first | (with_reducible first | exact HB.out | apply below_alloc | apply pw_below_drewN | apply below_drew1 | refine below_set ?_ GE.out | refine below_set ?_ GS.out) | exact HB.out)) : p := h
theorem Z6e {p : Prop} (h : p := by first | (with_reducible assumption) | assumption) : p := h
theorem Z6g {p : Prop} (h : p := by repeat (first | (with_reducible first | exact HB.out | apply below_alloc | apply pw_below_drewN | apply below_drew1) | exact HB.out)) : p := h
theorem Z6h {p : Prop} (h : p := by (with_reducible repeat (first | refine blk_drewN ?_ _ | refine blk_drew ?_ | refine blk_alloc ?_ _)); exact BK.out) : p := h
theorem Z6f {p : Prop} (h : p := by first | rfl | (simp; done) | (simp [*]; done)) : p := h
theorem Z6b {p : Prop} (h : p := by kernel_rfl) : p := h
theorem Z6i {p : Prop} (h : p := by (with_reducible repeat (first | apply Kd.R_alloc | apply Kd.R_drewN | apply Kd.R_drew)); exact HO.out) : p := h
/-! ### impl_LiKeys: function 28 (walked by hand) -/
def impl_LiKeys.l0 : Nat → Int → List Bool → List Int → Int → List Int → Option (List Int)
 | 0, _, _, _, _, _ => none
 | k + 1, x0, sn, x5, x7, l => (impl_isLink.f x7 x0).bind fun t => if t = true then ((impl_nodeOf.f x7).bind fun n8 => if n8 < 0 then some x5 else if n8 < 16 then (if sn.getD n8.toNat false = true then some [] else ((impl_linkCell.f n8).bind fun c => if 0 ≤ c then (if c < (l.length : Int) then ((impl_isMarked.f (rd l c)).bind fun mk => if mk = true then impl_LiKeys.l0 k x0 (sn.set n8.toNat true) x5 (rd l c) l else ((impl_keyCell.f n8).bind fun c2 => if 0 ≤ c2 then (if c2 < (l.length : Int) then (if x5.length < 17592186044416 then impl_LiKeys.l0 k x0 (sn.set n8.toNat true) (x5 ++ [rd l c2]) (rd l c) l else none) else none) else none)) else none) else none)) else none) else some []
def impl_LiKeys.g (k : Nat) (a0 : Int) (l : List Int) : Option (List Int) := (impl_within.f a0 1 16).bind fun t => if t = true then (if (l.length : Int) = wrap64 (1 + wrap64 (2 * a0)) then (if 0 < (l.length : Int) then impl_LiKeys.l0 k a0 (List.replicate 16 false) [] (rd l 0) l else none) else some []) else some []
theorem ne_t_ {w : World} {g g' t t' : Nat} {cs cs' : Array Value} (h : w.heap[g]? = some (.cells cs t (0, 0))) (h' : w.heap[g']? = some (.cells cs' t' (0, 0))) (ht : t ≠ t') : g ≠ g' := by
 rintro rfl
 rw [h] at h'
 injection h' with h'
 injection h' with _ h'
 exact ht h'

set_option maxRecDepth 100000 in
set_option maxHeartbeats 8000000 in
theorem impl_LiKeys.callsg (k : Nat) (a0 : Int) (hA : Option Addr) (fA : Nat) (aA : List Int) (r : List Int) (w : World) (oA : Kd.C (Kd.int .i64) w hA aA.length aA) (pA : aA.length ≤ fA) (h : impl_LiKeys.g k a0 aA = some r) :
  Calls Try.prog 28 #[.int .i64 a0, .agg #[.slice hA aA.length fA]] w fun e w' => ∃ v0_ : Value, e = .returned (v0_) ∧ Kd.R (Kd.int .i64) 3 w' w.heap.size (fun _ => True) v0_ r ∧ Below w.heap.size w w' := by
 have hu29 := Try.underlying29
 have HR := Z6a oA
 clear oA pA
 have HB := Z6a (Below.refl w.heap.size w)
 unfold impl_LiKeys.g at h
 obtain ⟨t0, A00, H⟩ := Option.bind_eq_some_iff.mp h
 clear h
 have A0 := Z6a A00
 clear A00
 have H0 := Z6a H
 clear H
 go_enter Try.func28, Try.ntmps28
 go_wp2_with (first | ((with_reducible refine gate_dst (N := 3) rfl ?_); (try (refine gate_guard (by rfl) ?_; dsimp only)); refine box_event ?hg (N := 3) ?hd (cs := #[.slice hA aA.length fA]) (t := 29) ?hr ?_; (case hd => rfl); (case hg => rfl); (case hr => first | (go_simp; done) | (go_simp; rfl)); intro gb hg w4 hbox hb; have kA := Z6a (below_step Z6d hb); have qA := Z6a (hbox); have lA := Z6a ((by rw [hg]; exact (below_size Z6d) : w.heap.size ≤ gb)); clear HB; have HB := kA; have BK := qA; have GE := lA; clear kA qA lA; clear hb hbox hg) | ((with_reducible refine gate_dst (N := 9) rfl ?_); (try (refine gate_guard (by rfl) ?_; dsimp only)); refine Kd.R_lit (Kd.int .i64) _ 3 ?hg (N := 9) ?hd (xs := ([] : List Int)) (inner := []) (ok := fun _ => True) (okp := fun _ => True) ?hr ?hp (fun _ hk => hk) trivial (Below.refl _ _) (Nat.le_refl _) (by simp) ?_; (case hd => rfl); (case hg => rfl); (case hr => first | (go_simp; done) | (go_simp; rfl)); (case hp => exact (Reps.none _ _)); intro v5 w5 ho6 hb hg_ hnew_; clear hg_ hnew_; (try simp only [Int.reduceToNat] at ho6); have kA := Z6a (Kd.R_lower ho6 (below_size Z6d)); have qA := Z6a (blk_below (g := gb) (o := .cells #[.slice hA aA.length fA] 29 (0, 0)) Z6h hb); have lA := Z6a (below_step Z6d hb); clear BK HB; have HO := kA; have BK := qA; have HB := lA; clear kA qA lA; clear hb ho6))
 refine (impl_within.calls a0 1 16 t0 _ A0.out).mono ?_
 rintro e w' ⟨rfl, nd, rfl⟩
 have H := H0.out
 clear H0
 cases t0 with
 | false =>
  obtain rfl := Option.some.inj ((if_neg (by decide)).symm.trans H)
  clear H
  go_wp2
  go_ret
  exact ⟨_, rfl, by (with_reducible repeat (first | apply Kd.R_alloc | apply Kd.R_drewN | apply Kd.R_drew)); exact Kd.R_mono HO.out (fun _ hk => trivial), Z6d⟩
 | true =>
  have H := (if_pos rfl).symm.trans H
  have hx : (w5.drewN nd).cell? ⟨gb, 0, none⟩ = some (.slice hA aA.length fA) := (blk_cell (blk_drewN BK.out _) 0).trans rfl
  by_cases he : (aA.length : Int) = wrap64 (1 + wrap64 (2 * a0))
  ·rw [if_pos he] at H
   have hne : ((aA.length : Int) != wrap64 (1 + wrap64 (2 * a0))) = false := by simp [he]
   by_cases h0 : 0 < (aA.length : Int)
   ·rw [if_pos h0] at H
    have H' := Z6a H
    clear H he
    have p0 : 0 ≤ (0 : Int) := by omega
    obtain ⟨ad, e0, hx0⟩ := Kd.at_int HR.out 0 p0 h0
    cases e0
    have q0 : (0 < aA.length) = True := eq_true (by omega)
    rw [show ((0 : Int)).toNat = 0 from rfl, Addr.add_zero'] at hx0
    replace p0 := eq_true p0
    replace h0 := eq_true h0
    go_wp2_with (first | ((with_reducible refine gate_dst (N := 6) rfl ?_); (try (refine gate_guard (by rfl) ?_; dsimp only)); refine box_event ?hg (N := 6) ?hd (cs := #[.bool false, .bool false, .bool false, .bool false, .bool false, .bool false, .bool false, .bool false, .bool false, .bool false, .bool false, .bool false, .bool false, .bool false, .bool false, .bool false]) (t := 79) ?hr ?_; (case hd => rfl); (case hg => rfl); (case hr => first | (go_simp; done) | (go_simp; rfl)); intro gs hg w6 hbox hb; have qA := Z6a (blk_below (g := gb) (o := .cells #[.slice (some ad) aA.length fA] 29 (0, 0)) Z6h hb); have lA := Z6a ((by rw [hg]; exact (below_size Z6d) : w.heap.size ≤ gs)); have IA := Z6a (Kd.R_below Z6i hb); have kA := Z6a (below_step Z6d hb); clear HB BK HO; have HB := kA; have BK := qA; have GS := lA; have HO := IA; have BS := Z6a hbox; clear kA qA lA IA hb hbox hg; have hx6 := Z6j BK.out 0 (.slice (some ad) aA.length fA); have hx60 := (HB.out.cell (World.block_lt_of_cell? w _ hx0)).trans hx0))
    go_loopg [5, 7] k (fun kq v5 v7 w' => ∃ (nA : List Int) (sn : List Bool) (rA : Int), v7 = .int .i64 rA ∧ Aside0 (impl_LiKeys.l0 kq a0 sn nA rA aA = some r) ∧ Aside0 (kq ≤ k) ∧ Aside0 (sn.length = 16) ∧ Aside0 (Kd.R (Kd.int .i64) 3 w' w.heap.size (fun _ => True) v5 nA) ∧ Aside0 (w'.heap[gb]? = some (.cells #[(.slice (some ad) aA.length fA)] 29 (0, 0))) ∧ Aside0 (w'.heap[gs]? = some (.cells (sn.map Value.bool).toArray 79 (0, 0))) ∧ Aside0 (Below w.heap.size w w'))
    case atStart => exact ⟨[], List.replicate 16 false, rd aA 0, rfl, H', ⟨Nat.le_refl _⟩, ⟨by simp⟩, HO, BK, ⟨BS.out⟩, HB⟩
    case round =>
     clear H' HO BK BS HB hx hx0 hx6 hx60 q0 p0 h0 hne A0
     obtain ⟨nA, sn, rA, rfl, HA, HK2, HN, HO, BK, BS, HB⟩ := hrel
     cases gk with
     | zero => exact absurd HA.out (by simp [impl_LiKeys.l0])
     | succ k2 =>
      have H := HA.out
      clear HA
      rw [impl_LiKeys.l0] at H
      obtain ⟨t1, A10, H⟩ := Option.bind_eq_some_iff.mp H
      have A1 := Z6a A10
      clear A10
      go_wp2_with fail
      refine (impl_isLink.calls rA a0 t1 _ A1.out).mono ?_
      rintro e w1 ⟨rfl, n1, rfl⟩
      cases t1 with
      | false =>
       obtain rfl := Option.some.inj ((if_neg (by decide)).symm.trans H)
       clear H
       go_wp2_with (first | ((with_reducible refine gate_dst (N := 31) rfl ?_); (try (refine gate_guard (by rfl) ?_; dsimp only)); refine Kd.R_lit (Kd.int .i64) _ 3 ?hg (N := 31) ?hd (xs := ([] : List Int)) (inner := []) (ok := fun _ => True) (okp := fun _ => True) ?hr ?hp (fun _ hk => hk) trivial (Below.refl _ _) (Nat.le_refl _) (by simp) ?_; (case hd => rfl); (case hg => rfl); (case hr => first | (go_simp; done) | (go_simp; rfl)); (case hp => exact (Reps.none _ _)); intro v31 NA ho6 hb hg_ hnew_; clear hg_ hnew_; (try simp only [Int.reduceToNat] at ho6); have kA := Z6a (Kd.R_lower ho6 (below_size Z6d)); have lA := Z6a (below_step Z6d hb); clear HB; have wA := kA; have HB := lA; clear kA lA; clear hb ho6))
       go_ret
       exact ⟨_, rfl, Kd.R_mono wA.out (fun _ _ => trivial), HB.out⟩
      | true =>
       rw [if_pos rfl] at H
       obtain ⟨n8, A20, H⟩ := Option.bind_eq_some_iff.mp H
       have A2 := Z6a A20
       clear A20
       go_wp2_with fail
       refine (impl_nodeOf.calls rA n8 _ A2.out).mono ?_
       rintro e w2 ⟨rfl, n2, rfl⟩
       by_cases hneg : n8 < 0
       ·rw [if_pos hneg] at H
        obtain rfl := Option.some.inj H
        clear H
        have hd : decide (n8 < 0) = true := decide_eq_true hneg
        go_wp2
        go_ret
        exact ⟨_, rfl, Z6i, Z6g⟩
       ·rw [if_neg hneg] at H
        have hd : decide (n8 < 0) = false := decide_eq_false hneg
        by_cases h16 : n8 < 16
        ·rw [if_pos h16] at H
         obtain ⟨i, rfl⟩ : ∃ i : Nat, n8 = (i : Int) := ⟨n8.toNat, by omega⟩
         have hi : i < sn.length := by have := HN.out; omega
         rw [Int.toNat_natCast] at H
         have hfz := Z6k BS.out i
         have hcell : wr.cell? ⟨gs, i, none⟩ = some (.bool (sn.getD i false)) := (blk_cell BS.out i).trans (by simp [List.getD, hi])
         cases hq : sn.getD i false with
         | true =>
          rw [hq] at hcell
          rw [if_pos hq] at H
          obtain rfl := Option.some.inj H
          clear H
          go_wp2_with (first | ((with_reducible refine gate_dst (N := 40) rfl ?_); (try (refine gate_guard (by rfl) ?_; dsimp only)); refine Kd.R_lit (Kd.int .i64) _ 3 ?hg (N := 40) ?hd (xs := ([] : List Int)) (inner := []) (ok := fun _ => True) (okp := fun _ => True) ?hr ?hp (fun _ hk => hk) trivial (Below.refl _ _) (Nat.le_refl _) (by simp) ?_; (case hd => rfl); (case hg => rfl); (case hr => first | (go_simp; done) | (go_simp; rfl)); (case hp => exact (Reps.none _ _)); intro v31 NA ho6 hb hg_ hnew_; clear hg_ hnew_; (try simp only [Int.reduceToNat] at ho6); have kA := Z6a (Kd.R_lower ho6 (below_size Z6d)); have lA := Z6a (below_step Z6d hb); clear HB; have wA := kA; have HB := lA; clear kA lA; clear hb ho6))
          go_ret
          exact ⟨_, rfl, Kd.R_mono wA.out (fun _ _ => trivial), HB.out⟩
         | false =>
          rw [hq] at hcell
          rw [if_neg (by rw [hq]; decide)] at H
          obtain ⟨c, A30, H⟩ := Option.bind_eq_some_iff.mp H
          have A3 := Z6a A30
          clear A30
          have H1 := Z6a H
          clear H
          go_wp2_with fail
          have H := H1.out
          clear H1
          by_cases c0 : 0 ≤ c
          ·rw [if_pos c0] at H
           by_cases c1 : c < (aA.length : Int)
           ·rw [if_pos c1] at H
            obtain ⟨mk, A40, H⟩ := Option.bind_eq_some_iff.mp H
            have A4 := Z6a A40
            clear A40
            obtain ⟨ad2, e2, hx⟩ := Kd.at_int HR.out c c0 c1
            obtain rfl : ad = ad2 := by injection e2
            replace c0 := eq_true c0
            replace c1 := eq_true c1
            have H1 := Z6a H
            clear H
            have ne1 := ne_t_ BK.out BS.out (by decide)
            replace HO := Z6a (Kd.R_mono (Kd.R_far (p := ⟨gs, i, none⟩) (Kd.R_types (Kd.R_drewN HO.out (n1 + n2)) (blk_drewN BS.out (n1 + n2)) (by decide)) (fun _ hk => hk.2) (.bool true)) (fun _ h_ => h_.1))
            replace BK := Z6a ((Below.heap_setCell (wr.drewN (n1 + n2)) ⟨gs, i, none⟩ (.bool true) gb ne1).trans (blk_drewN BK.out (n1 + n2)))
            replace BS := Z6a (show ((wr.drewN (n1 + n2)).setCell ⟨gs, i, none⟩ (.bool true)).heap[gs]? = some (.cells ((sn.set i true).map Value.bool).toArray 79 (0, 0)) from (blk_set (blk_drewN BS.out (n1 + n2)) i (.bool true)).trans (by simp [List.map_set]))
            replace HB := Z6a (below_set (j := i) (v := .bool true) (pw_below_drewN HB.out (n1 + n2)) GS.out)
            replace HN := Z6a (show (sn.set i true).length = 16 from (List.length_set ..).trans HN.out)
            generalize sn.set i true = sn2 at HN BS H1
            generalize (wr.drewN (n1 + n2)).setCell ⟨gs, i, none⟩ (.bool true) = w3 at HO BK BS HB ⊢
            clear hcell hfz hq hi hd hneg h16
            have hx' := Z6a hx
            clear hx
            replace HB := Z6a (below_drew1 HB.out)
            replace HO := Z6a (Kd.R_drew HO.out)
            replace BK := Z6a (blk_drew BK.out)
            replace BS := Z6a (blk_drew BS.out)
            refine start_ (n := 7) (S := fun w' => Below w.heap.size w w' ∧ w'.cell? ⟨gb, 0, none⟩ = some (.slice (some ad) aA.length fA)) (ds := []) #[F,F,F,F,F,F,F] Z6b rfl rfl ⟨HB.out, (blk_cell BK.out 0).trans rfl⟩ (fun hHeld => ?_)
            generalize w3.drew = w9 at HB HO BK BS hHeld ⊢
            refine pure_ (i := 0) (N := some 43) (v := ?_) (a' := ?_) #[T,F,F,F,F,F,F] rfl rfl Z6b (fun _ _ _ h => h) (Or.inl ⟨by rfl, ?_⟩) ?_ ?_
            rotate_left
            ·intro w'
             go_simp
             with_reducible rfl
            rotate_left
            ·simp only [Act.put, List.setIfInBounds_toArray, List.set_cons_zero, List.set_cons_succ, i64_w, i32_w]
             rfl
            refine take_ (i := 1) (N := some 44) (v := ?_) (a' := ?_) #[T,T,F,F,F,F,F] rfl rfl Z6b (fun _ _ _ h => h) (Or.inl ⟨by rfl, ?_⟩) hHeld ?_ ?_
            rotate_left
            ·rintro w' ⟨s0, s1⟩
             go_simp
             with_reducible rfl
            rotate_left
            ·simp only [Act.put, List.setIfInBounds_toArray, List.set_cons_zero, List.set_cons_succ, i64_w, i32_w]
             rfl
            refine pure_ (i := 2) (N := some 45) (v := ?_) (a' := ?_) #[T,T,T,F,F,F,F] rfl rfl Z6b (fun _ _ _ h => h) (Or.inl ⟨by rfl, ?_⟩) ?_ ?_
            rotate_left
            ·intro w'
             go_simp
             with_reducible rfl
            rotate_left
            ·simp only [Act.put, List.setIfInBounds_toArray, List.set_cons_zero, List.set_cons_succ, i64_w, i32_w]
             rfl
            refine one_ (i := 3) (N := some 46) #[T,T,T,T,F,F,F] rfl rfl Z6b (by decide) (fun K hK => ?_)
            refine goes_ Try.func50 Z6b rfl #[.int .i64 (i : Int)] (by rfl) rfl rfl (by (try simp only [List.map_toArray, List.map_cons, List.map_nil]); first | done | rfl | (simp only [List.length_drop, List.length_take]; rfl)) ?_
            with_reducible refine (impl_linkCell.calls (i : Int) c _ A3.out).mono ?_
            rintro e JA ⟨rfl, hd0⟩
            refine ⟨_, rfl, ?_⟩
            have hb := Drawn0.below hd0
            replace HO := Z6a (Kd.R_below HO.out hb)
            replace BK := Z6a (blk_below BK.out hb)
            replace BS := Z6a (blk_below BS.out hb)
            replace HB := Z6a (below_step HB.out hb)
            clear hb hd0
            refine hK.out _ _ ⟨HB.out, (blk_cell BK.out 0).trans rfl⟩ (fun hHeld => ?_)
            clear hK K
            refine norm_ (a' := ?_) ?_ ?_
            rotate_left
            ·show Act.put _ (some 46) _ = _
             simp only [Act.put, List.setIfInBounds_toArray, List.set_cons_zero, List.set_cons_succ, i64_w, i32_w]
             rfl
            refine pure_ (i := 4) (N := some 47) (v := ?_) (a' := ?_) #[T,T,T,T,T,F,F] rfl rfl Z6b (fun _ _ _ h => h) (Or.inl ⟨by rfl, ?_⟩) ?_ ?_
            rotate_left
            ·intro w'
             go_simp
             with_reducible rfl
            rotate_left
            ·simp only [Act.put, List.setIfInBounds_toArray, List.set_cons_zero, List.set_cons_succ, i64_w, i32_w]
             rfl
            refine take_ (i := 5) (N := some 48) (v := ?_) (a' := ?_) #[T,T,T,T,T,T,F] rfl rfl Z6b (fun _ _ _ h => h) (Or.inl ⟨by rfl, ?_⟩) hHeld ?_ ?_
            rotate_left
            ·rintro w' ⟨s0, s1⟩
             have hx9 := (s0.cell (World.block_lt_of_cell? w _ hx'.out)).trans hx'.out
             go_simp
             with_reducible rfl
            rotate_left
            ·simp only [Act.put, List.setIfInBounds_toArray, List.set_cons_zero, List.set_cons_succ, i64_w, i32_w]
             rfl
            refine pure_ (i := 6) (N := some 7) (v := ?_) (a' := ?_) #[T,T,T,T,T,T,T] rfl rfl Z6b (fun _ _ _ h => h) (Or.inl ⟨by rfl, ?_⟩) ?_ ?_
            rotate_left
            ·intro w'
             go_simp
             with_reducible rfl
            rotate_left
            ·simp only [Act.put, List.setIfInBounds_toArray, List.set_cons_zero, List.set_cons_succ, i64_w, i32_w]
             rfl
            refine done_ Z6b ?_
            clear hHeld
            go_wp2_with fail
            refine (impl_isMarked.calls (rd aA c) mk _ A4.out).mono ?_
            rintro e TA ⟨rfl, n4, rfl⟩
            have H := H1.out
            clear H1
            cases mk with
            | true =>
             rw [if_pos rfl] at H
             have H' := Z6a H
             clear H
             go_wp2
             go_roundg k2
             case measure => have := HK2.out; omega
             case rel => exact ⟨nA, sn2, rd aA c, rfl, H', ⟨by have := HK2.out; omega⟩, HN, ⟨Z6i⟩, ⟨Z6h⟩, ⟨by (with_reducible repeat (first | refine blk_drewN ?_ _ | refine blk_drew ?_ | refine blk_alloc ?_ _)); exact BS.out⟩, ⟨Z6g⟩⟩
            | false =>
             rw [if_neg (by decide)] at H
             obtain ⟨c2, A50, H⟩ := Option.bind_eq_some_iff.mp H
             have A5 := Z6a A50
             clear A50
             by_cases d0 : 0 ≤ c2
             ·rw [if_pos d0] at H
              by_cases d1 : c2 < (aA.length : Int)
              ·rw [if_pos d1] at H
               by_cases d2 : nA.length < 17592186044416
               ·rw [if_pos d2] at H
                have LM := Z6a d2
                clear d2
                have H' := Z6a H
                clear H
                obtain ⟨ad3, e3, hy⟩ := Kd.at_int HR.out c2 d0 d1
                obtain rfl : ad = ad3 := by injection e3
                replace d0 := eq_true d0
                replace d1 := eq_true d1
                have hy' := Z6a hy
                clear hy hx'
                replace HB := Z6a (pw_below_drewN HB.out n4)
                replace HO := Z6a (Kd.R_drewN HO.out n4)
                replace BK := Z6a (blk_drewN BK.out n4)
                replace BS := Z6a (blk_drewN BS.out n4)
                generalize JA.drewN n4 = OA at HB HO BK BS ⊢
                go_wp2_with fail
                replace HB := Z6a (below_drew1 HB.out)
                replace HO := Z6a (Kd.R_drew HO.out)
                replace BK := Z6a (blk_drew BK.out)
                replace BS := Z6a (blk_drew BS.out)
                refine start_ (n := 10) (S := fun w' => Below w.heap.size w w' ∧ w'.cell? ⟨gb, 0, none⟩ = some (.slice (some ad) aA.length fA)) (ds := []) #[F,F,F,F,F,F,F,F,F,F] Z6b rfl rfl ⟨HB.out, (blk_cell BK.out 0).trans rfl⟩ (fun hHeld => ?_)
                generalize OA.drew = UA at HB HO BK BS hHeld ⊢
                refine pure_ (i := 0) (N := some 52) (v := ?_) (a' := ?_) #[T,F,F,F,F,F,F,F,F,F] rfl rfl Z6b (fun _ _ _ h => h) (Or.inl ⟨by rfl, ?_⟩) ?_ ?_
                rotate_left
                ·intro w'
                 go_simp
                 with_reducible rfl
                rotate_left
                ·simp only [Act.put, List.setIfInBounds_toArray, List.set_cons_zero, List.set_cons_succ, i64_w, i32_w]
                 rfl
                refine pure_ (i := 1) (N := some 53) (v := ?_) (a' := ?_) #[T,T,F,F,F,F,F,F,F,F] rfl rfl Z6b (fun _ _ _ h => h) (Or.inl ⟨by rfl, ?_⟩) ?_ ?_
                rotate_left
                ·intro w'
                 go_simp
                 with_reducible rfl
                rotate_left
                ·simp only [Act.put, List.setIfInBounds_toArray, List.set_cons_zero, List.set_cons_succ, i64_w, i32_w]
                 rfl
                refine take_ (i := 2) (N := some 54) (v := ?_) (a' := ?_) #[T,T,T,F,F,F,F,F,F,F] rfl rfl Z6b (fun _ _ _ h => h) (Or.inl ⟨by rfl, ?_⟩) hHeld ?_ ?_
                rotate_left
                ·rintro w' ⟨s0, s1⟩
                 go_simp
                 with_reducible rfl
                rotate_left
                ·simp only [Act.put, List.setIfInBounds_toArray, List.set_cons_zero, List.set_cons_succ, i64_w, i32_w]
                 rfl
                refine pure_ (i := 3) (N := some 55) (v := ?_) (a' := ?_) #[T,T,T,T,F,F,F,F,F,F] rfl rfl Z6b (fun _ _ _ h => h) (Or.inl ⟨by rfl, ?_⟩) ?_ ?_
                rotate_left
                ·intro w'
                 go_simp
                 with_reducible rfl
                rotate_left
                ·simp only [Act.put, List.setIfInBounds_toArray, List.set_cons_zero, List.set_cons_succ, i64_w, i32_w]
                 rfl
                refine one_ (i := 4) (N := some 56) #[T,T,T,T,T,F,F,F,F,F] rfl rfl Z6b (by decide) (fun K hK => ?_)
                refine goes_ Try.func53 Z6b rfl #[.int .i64 (i : Int)] (by rfl) rfl rfl (by (try simp only [List.map_toArray, List.map_cons, List.map_nil]); first | done | rfl | (simp only [List.length_drop, List.length_take]; rfl)) ?_
                with_reducible refine (impl_keyCell.calls (i : Int) c2 _ A5.out).mono ?_
                rintro e VA ⟨rfl, hd0⟩
                refine ⟨_, rfl, ?_⟩
                have hb := Drawn0.below hd0
                replace HO := Z6a (Kd.R_below HO.out hb)
                replace BK := Z6a (blk_below BK.out hb)
                replace BS := Z6a (blk_below BS.out hb)
                replace HB := Z6a (below_step HB.out hb)
                clear hb hd0
                refine hK.out _ _ ⟨HB.out, (blk_cell BK.out 0).trans rfl⟩ (fun hHeld => ?_)
                clear hK K
                refine norm_ (a' := ?_) ?_ ?_
                rotate_left
                ·show Act.put _ (some 56) _ = _
                 simp only [Act.put, List.setIfInBounds_toArray, List.set_cons_zero, List.set_cons_succ, i64_w, i32_w]
                 rfl
                refine pure_ (i := 5) (N := some 57) (v := ?_) (a' := ?_) #[T,T,T,T,T,T,F,F,F,F] rfl rfl Z6b (fun _ _ _ h => h) (Or.inl ⟨by rfl, ?_⟩) ?_ ?_
                rotate_left
                ·intro w'
                 go_simp
                 with_reducible rfl
                rotate_left
                ·simp only [Act.put, List.setIfInBounds_toArray, List.set_cons_zero, List.set_cons_succ, i64_w, i32_w]
                 rfl
                refine take_ (i := 6) (N := some 58) (v := ?_) (a' := ?_) #[T,T,T,T,T,T,T,F,F,F] rfl rfl Z6b (fun _ _ _ h => h) (Or.inl ⟨by rfl, ?_⟩) hHeld ?_ ?_
                rotate_left
                ·rintro w' ⟨s0, s1⟩
                 have hy9 := (s0.cell (World.block_lt_of_cell? w _ hy'.out)).trans hy'.out
                 go_simp
                 with_reducible rfl
                rotate_left
                ·simp only [Act.put, List.setIfInBounds_toArray, List.set_cons_zero, List.set_cons_succ, i64_w, i32_w]
                 rfl
                refine one_ (i := 7) (N := some 59) #[T,T,T,T,T,T,T,T,F,F] rfl rfl Z6b (by decide) (fun K hK => ?_)
                refine value_ (w1 := ?_) (v := ?_) (by rfl) rfl ?_ ?_
                rotate_left 2
                ·go_simp
                 constructor
                 ·rfl
                 ·rfl
                refine hK.out _ _ ⟨below_alloc HB.out _, (blk_cell (blk_alloc BK.out _) 0).trans rfl⟩ (fun hHeld => ?_)
                clear hK K
                refine norm_ (a' := ?_) ?_ ?_
                rotate_left
                ·show Act.put _ (some 59) _ = _
                 simp only [Act.put, List.setIfInBounds_toArray, List.set_cons_zero, List.set_cons_succ, i64_w, i32_w]
                 rfl
                refine one_ (i := 8) (N := some 60) #[T,T,T,T,T,T,T,T,T,F] rfl rfl Z6b (by decide) (fun K hK => ?_)
                refine Kd.R_append_step (Kd.int .i64) (w0 := w) w.heap.size (by rfl) (.tmp 52) (.tmp 59) 27 3 (.int .i64 0) 8 rfl Try.underlying27 info3 rfl (by decide) (by omega) u5 nA (rd aA c2) [.int .i64 (rd aA c2)] (fun _ => True) (fun _ => False) rfl rfl ?aP (fun _ hk => hk.elim) ?aF ?aO ?aB ?aS ?aL ?_
                (case aP => exact rfl)
                (case aB => exact HB.out)
                (case aF => exact (fun _ _ => trivial))
                (case aO => exact HO.out)
                (case aS => exact below_size HB.out)
                (case aL => have := LM.out; omega)
                intro v15 WA ho hb hg hat
                replace BK := Z6a (blk_grown (g := gb) (o := .cells #[.slice (some ad) aA.length fA] 29 (0, 0)) BK.out hg (Kd.R_ne HO.out BK.out (by decide)))
                replace BS := Z6a (blk_grown (g := gs) (o := .cells (sn2.map Value.bool).toArray 79 (0, 0)) BS.out hg (Kd.R_ne HO.out BS.out (by decide)))
                replace HB := Z6a hb
                have wA := Z6a ho
                clear HO ho hb hg hat
                refine hK.out _ _ ⟨HB.out, (blk_cell BK.out 0).trans rfl⟩ (fun hHeld => ?_)
                clear hK K
                refine norm_ (a' := ?_) ?_ ?_
                rotate_left
                ·show Act.put _ (some 60) _ = _
                 simp only [Act.put, List.setIfInBounds_toArray, List.set_cons_zero, List.set_cons_succ, i64_w, i32_w]
                 rfl
                refine pure_ (i := 9) (N := some 5) (v := ?_) (a' := ?_) #[T,T,T,T,T,T,T,T,T,T] rfl rfl Z6b (fun _ _ _ h => h) (Or.inl ⟨by rfl, ?_⟩) ?_ ?_
                rotate_left
                ·intro w'
                 go_simp
                 with_reducible rfl
                rotate_left
                ·simp only [Act.put, List.setIfInBounds_toArray, List.set_cons_zero, List.set_cons_succ, i64_w, i32_w]
                 rfl
                refine done_ Z6b ?_
                clear hHeld
                try go_wp2
                go_roundg k2
                case measure => have := HK2.out; omega
                case rel => exact ⟨nA ++ [rd aA c2], sn2, rd aA c, rfl, H', ⟨by have := HK2.out; omega⟩, HN, ⟨by (with_reducible repeat (first | apply Kd.R_alloc | apply Kd.R_drewN | apply Kd.R_drew)); exact wA.out⟩, ⟨Z6h⟩, ⟨by (with_reducible repeat (first | refine blk_drewN ?_ _ | refine blk_drew ?_ | refine blk_alloc ?_ _)); exact BS.out⟩, ⟨Z6g⟩⟩
               ·rw [if_neg d2] at H
                exact absurd H (by simp)
              ·rw [if_neg d1] at H
               exact absurd H (by simp)
             ·rw [if_neg d0] at H
              exact absurd H (by simp)
           ·rw [if_neg c1] at H
            exact absurd H (by simp)
          ·rw [if_neg c0] at H
           exact absurd H (by simp)
        ·rw [if_neg h16] at H
         exact absurd H (by simp)
   ·rw [if_neg h0] at H
    exact absurd H (by simp)
  ·rw [if_neg he] at H
   obtain rfl := Option.some.inj H
   clear H
   have hne : ((aA.length : Int) != wrap64 (1 + wrap64 (2 * a0))) = true := by simp [he]
   go_wp2
   go_ret
   exact ⟨_, rfl, by (with_reducible repeat (first | apply Kd.R_alloc | apply Kd.R_drewN | apply Kd.R_drew)); exact Kd.R_mono HO.out (fun _ hk => trivial), Z6d⟩
def impl_LiKeys.f (a0 : Int) (l : List Int) : Option (List Int) := impl_LiKeys.g 100 a0 l
theorem impl_LiKeys.calls (a0 : Int) (hA : Option Addr) (fA : Nat) (aA : List Int) (r : List Int) (w : World) (oA : Kd.C (Kd.int .i64) w hA aA.length aA) (pA : aA.length ≤ fA) (h : impl_LiKeys.f a0 aA = some r) :
  Calls Try.prog 28 #[.int .i64 a0, .agg #[.slice hA aA.length fA]] w fun e w' => ∃ v0_ : Value, e = .returned (v0_) ∧ Kd.R (Kd.int .i64) 3 w' w.heap.size (fun _ => True) v0_ r ∧ Below w.heap.size w w' := impl_LiKeys.callsg 100 a0 hA fA aA r w oA pA h


/-! ### slices_Index_int_int: function 71 -/
def slices_Index_int_int.l0 : Nat → List Int → Int → Int → Int → Option (Int)
 | 0, _, _, _, _ => none
 | k + 1, x0, x1, x7, x8 => if x8 < x7 then (if 0 ≤ x8 then (if x8 < (x0.length : Int) then (if x1 = (rd x0 x8) then (some x8) else (slices_Index_int_int.l0 k x0 x1 x7 (wrap64 (x8 + 1)))) else (none)) else (none)) else (some (-1))
def slices_Index_int_int.f (k : Nat) (l0 : List Int) (a1 : Int) : Option (Int) := slices_Index_int_int.l0 k l0 a1 (l0.length : Int) 0
theorem slices_Index_int_int.mono_l : ∀ k, (∀ y0 y1 y2 y3, LeO (slices_Index_int_int.l0 k y0 y1 y2 y3) (slices_Index_int_int.l0 (k + 1) y0 y1 y2 y3))
 | 0 => fun _ _ _ _ r h => by simp [slices_Index_int_int.l0] at h
 | k + 1 => by
  have ih0 := slices_Index_int_int.mono_l k
  ·intro y0 y1 y2 y3
   unfold slices_Index_int_int.l0
   repeat' first
   | (with_reducible exact ih0 _ _ _ _)
   | (with_reducible exact LeO.refl _)
   | (with_reducible exact LeO.none _)
   | (with_reducible refine LeO.ite ?_ ?_)
   | (with_reducible refine LeO.bind ?_ (fun _ => ?_))
   | exact ih0 _ _ _ _
   | exact LeO.none _
   | refine LeO.ite ?_ ?_
   | refine LeO.bind ?_ (fun _ => ?_)
theorem slices_Index_int_int.mono : ∀ a0 a1 k, LeO (slices_Index_int_int.f k a0 a1) (slices_Index_int_int.f (k + 1) a0 a1) := by
 intro a0 a1 k
 have ih0 := slices_Index_int_int.mono_l k
 unfold slices_Index_int_int.f
 repeat' first
   | (with_reducible exact ih0 _ _ _ _)
   | (with_reducible exact LeO.refl _)
   | (with_reducible exact LeO.none _)
   | (with_reducible refine LeO.ite ?_ ?_)
   | (with_reducible refine LeO.bind ?_ (fun _ => ?_))
   | exact ih0 _ _ _ _
   | exact LeO.none _
   | refine LeO.ite ?_ ?_
   | refine LeO.bind ?_ (fun _ => ?_)
set_option maxHeartbeats 8000000 in
set_option maxRecDepth 100000 in
theorem slices_Index_int_int.calls (k : Nat) (A0 : Option Addr) (c0 : Nat) (l0 : List Int) (a1 : Int) (r : Int) (w : World) (hr0 : Kd.C (Kd.int .i64) w A0 l0.length l0) (hc0 : l0.length ≤ c0) (h : slices_Index_int_int.f k l0 a1 = some r) :
  Calls Try.prog 71 #[.slice A0 l0.length c0, .int .i64 a1] w fun e w' => e = .returned (.int .i64 r) ∧ Drawn0 w w' := by
 have HR0 := Z6a hr0
 clear hr0 hc0
 have H : (slices_Index_int_int.l0 k l0 a1 (l0.length : Int) 0) = some r := h
 clear h
 have H' := Z6a H
 clear H
 go_enter Try.func71, Try.ntmps71
 go_wp2
 go_loopg [8] k (fun kq v8 w' => ∃ (dA : Int), v8 = .int .i64 dA ∧ Aside0 (slices_Index_int_int.l0 kq l0 a1 (l0.length : Int) dA = some r) ∧ Aside0 (kq ≤ k) ∧ Drawn0 w w')
 case atStart => exact ⟨(0), Z6f, H', ⟨Nat.le_refl _⟩, by repeat (first | exact Drawn0.refl _ | apply Drawn0.step)⟩
 case round =>
  clear H'
  try clear p2
  obtain ⟨dA, rfl, HA, HK1, ⟨m1, rfl⟩⟩ := hrel
  cases gk with
  | zero => exact absurd HA.out (by simp [slices_Index_int_int.l0])
  | succ k1 =>
   have H := HA.out
   clear HA
   simp only [slices_Index_int_int.l0] at H
   by_cases c3 : dA < (l0.length : Int)
   ·rw [if_pos c3] at H
    have uA : decide (dA < (l0.length : Int)) = true := decide_eq_true c3
    clear c3
    by_cases c4 : 0 ≤ dA
    ·rw [if_pos c4] at H
     have CA : decide (0 ≤ dA) = true := decide_eq_true c4
     clear c4
     by_cases c5 : dA < (l0.length : Int)
     ·rw [if_pos c5] at H
      have DA : decide (dA < (l0.length : Int)) = true := decide_eq_true c5
      clear c5
      by_cases c6 : a1 = (rd l0 dA)
      ·rw [if_pos c6] at H
       have xA : (a1 == (rd l0 dA)) = true := beq_iff_eq.mpr c6
       have EA : (a1 != (rd l0 dA)) = false := bne_eq_false_iff_eq.mpr c6
       clear c6
       obtain rfl := Option.some.inj H
       have p274 : 0 ≤ (dA : Int) := of_decide_eq_true Z6e
       have q274 : dA < (l0.length : Int) := of_decide_eq_true Z6e
       obtain ⟨ad274, vA, sA⟩ := Kd.at_int HR0.out dA p274 q274
       cases vA
       replace p274 := eq_true p274
       replace q274 := eq_true q274
       go_wp2
       go_ret
       exact ⟨Z6f, by repeat (first | exact Drawn0.refl _ | apply Drawn0.step)⟩
      ·rw [if_neg c6] at H
       have xA : (a1 == (rd l0 dA)) = false := beq_eq_false_iff_ne.mpr c6
       have EA : (a1 != (rd l0 dA)) = true := bne_iff_ne.mpr c6
       have H' := Z6a H
       clear H
       have p274 : 0 ≤ (dA : Int) := of_decide_eq_true Z6e
       have q274 : dA < (l0.length : Int) := of_decide_eq_true Z6e
       obtain ⟨ad274, vA, sA⟩ := Kd.at_int HR0.out dA p274 q274
       cases vA
       replace p274 := eq_true p274
       replace q274 := eq_true q274
       go_wp2
       go_roundg k1
       case measure => have := HK1.out; omega
       case rel => exact ⟨(wrap64 (dA + 1)), Z6f, H', ⟨by have := HK1.out; omega⟩, by repeat (first | exact Drawn0.refl _ | apply Drawn0.step)⟩
     ·rw [if_neg c5] at H
      exact absurd H (by simp)
    ·rw [if_neg c4] at H
     exact absurd H (by simp)
   ·rw [if_neg c3] at H
    have uA : decide (dA < (l0.length : Int)) = false := decide_eq_false c3
    clear c3
    obtain rfl := Option.some.inj H
    go_wp2
    go_ret
    exact ⟨Z6f, by repeat (first | exact Drawn0.refl _ | apply Drawn0.step)⟩

-- NOT PRINTED: function 83 (slices_overlaps_int)

/-! ### slices_Reverse_int_int: function 89 -/
def slices_Reverse_int_int.l0 : Nat → List Int → Int → Int → Option (List Int)
 | 0, _, _, _ => none
 | k + 1, x0, x2, x3 => if x2 < x3 then (if 0 ≤ x3 then (if x3 < (x0.length : Int) then (if 0 ≤ x2 then (if x2 < (x0.length : Int) then (slices_Reverse_int_int.l0 k ((x0.set (x2 : Int).toNat (rd x0 x3)).set (x3 : Int).toNat (rd x0 x2)) (wrap64 (x2 + 1)) (wrap64 (x3 - 1))) else (none)) else (none)) else (none)) else (none)) else (some x0)
def slices_Reverse_int_int.f (k : Nat) (l0 : List Int) : Option (List Int) := slices_Reverse_int_int.l0 k l0 0 (wrap64 ((l0.length : Int) - 1))
theorem slices_Reverse_int_int.mono_l : ∀ k, (∀ y0 y1 y2, LeO (slices_Reverse_int_int.l0 k y0 y1 y2) (slices_Reverse_int_int.l0 (k + 1) y0 y1 y2))
 | 0 => fun _ _ _ r h => by simp [slices_Reverse_int_int.l0] at h
 | k + 1 => by
  have ih0 := slices_Reverse_int_int.mono_l k
  ·intro y0 y1 y2
   unfold slices_Reverse_int_int.l0
   repeat' first
   | (with_reducible exact ih0 _ _ _)
   | (with_reducible exact LeO.refl _)
   | (with_reducible exact LeO.none _)
   | (with_reducible refine LeO.ite ?_ ?_)
   | (with_reducible refine LeO.bind ?_ (fun _ => ?_))
   | exact ih0 _ _ _
   | exact LeO.none _
   | refine LeO.ite ?_ ?_
   | refine LeO.bind ?_ (fun _ => ?_)
theorem slices_Reverse_int_int.mono : ∀ a0 k, LeO (slices_Reverse_int_int.f k a0) (slices_Reverse_int_int.f (k + 1) a0) := by
 intro a0 k
 have ih0 := slices_Reverse_int_int.mono_l k
 unfold slices_Reverse_int_int.f
 repeat' first
   | (with_reducible exact ih0 _ _ _)
   | (with_reducible exact LeO.refl _)
   | (with_reducible exact LeO.none _)
   | (with_reducible refine LeO.ite ?_ ?_)
   | (with_reducible refine LeO.bind ?_ (fun _ => ?_))
   | exact ih0 _ _ _
   | exact LeO.none _
   | refine LeO.ite ?_ ?_
   | refine LeO.bind ?_ (fun _ => ?_)
def slices_Reverse_int_int.T3 : Bool × List (List Nat × List Nat) := (true, [([], []), ([], []), ([], []), ([], []), ([], []), ([], []), ([4, 5], [4, 5]), ([6], [6]), ([], []), ([], []), ([8, 9], [8, 9]), ([10], [10]), ([0, 1, 0, 1, 4, 5, 6, 7, 11], [0, 1]), ([12, 7, 0, 1, 4, 5, 6, 7, 11], [7, 12]), ([2, 3, 0, 1, 2, 3, 4, 5, 6, 7, 8, 9, 10, 11, 12, 13], [2, 3]), ([14, 11, 13, 0, 1, 2, 3, 4, 5, 6, 7, 8, 9, 10, 11, 12, 13], [11, 14])])
def slices_Reverse_int_int.B3 : List Nat := [0, 0, 0, 0, 0, 0, 48, 112, 0, 0, 768, 1792, 4083, 8179, 16383, 32767]
theorem slices_Reverse_int_int.tab3 : rtab .any (opsOf Try.f89 3) = slices_Reverse_int_int.T3 := by kernel_rfl
theorem slices_Reverse_int_int.bits3 : waitsOk slices_Reverse_int_int.T3.2 slices_Reverse_int_int.B3 = true := by kernel_rfl
set_option maxHeartbeats 8000000 in
set_option maxRecDepth 100000 in
theorem slices_Reverse_int_int.calls (k : Nat) (P0_ : Nat → Prop) (u9000_ : Value) (l0 : List Int) (r : List Int) (w0 w : World) (hB : Below w0.heap.size w0 w) (ho0 : Kd.R (Kd.int .i64) 3 w w0.heap.size P0_ u9000_ l0) (h : slices_Reverse_int_int.f k l0 = some r) :
  Calls Try.prog 89 #[u9000_] w fun e w' => e = .returned (.tuple #[]) ∧ Kd.R (Kd.int .i64) 3 w' w0.heap.size (fun k_ => (P0_ k_ ∨ w.heap.size ≤ k_)) u9000_ r ∧ Below w0.heap.size w0 w' ∧ Kept w w' (fun k_ => P0_ k_) := by
 have KA := Z6a (show Kd.R (Kd.int .i64) 3 w w0.heap.size (fun k_ => (P0_ k_ ∨ w.heap.size ≤ k_)) u9000_ l0 from Kd.R_mono ho0 (fun k_ hk => (.inl hk)))
 have HK := Z6a (Kept.refl w (fun k_ => P0_ k_))
 have HW0 := Z6a hB.size
 have HB := Z6a hB
 clear hB
 have H : (slices_Reverse_int_int.l0 k l0 0 (wrap64 ((l0.length : Int) - 1))) = some r := h
 clear h
 have H' := Z6a H
 clear H
 obtain ⟨PA, QA, RA⟩ := Kd.R_slice KA.out
 subst RA
 go_enter Try.func89, Try.ntmps89
 go_wp2
 go_loopg [2, 3] k (fun kq v2 v3 w' => ∃ (eA : List Int) (bA : Int) (cA : Int), v2 = .int .i64 bA ∧ v3 = .int .i64 cA ∧ Aside0 (slices_Reverse_int_int.l0 kq eA bA cA = some r) ∧ Aside0 (kq ≤ k) ∧ Aside0 (Kd.R (Kd.int .i64) 3 w' w0.heap.size (fun k_ => (P0_ k_ ∨ w.heap.size ≤ k_)) (.slice PA l0.length QA) eA) ∧ Aside0 (Kept w w' (fun k_ => P0_ k_)) ∧ Aside0 (Below w0.heap.size w0 w'))
 case atStart => exact ⟨(l0), (0), (wrap64 ((l0.length : Int) - 1)), Z6f, Z6f, H', ⟨Nat.le_refl _⟩, ⟨by (with_reducible repeat (first | apply Kd.R_alloc | apply Kd.R_drewN | apply Kd.R_drew)); exact KA.out⟩, ⟨by repeat (first | (with_reducible first | exact HK.out | apply Kept.alloc | apply Kept.drewN | apply Kept.drew) | exact HK.out)⟩, ⟨Z6g⟩⟩
 case round =>
  clear H'
  try clear p2
  obtain ⟨eA, bA, cA, rfl, rfl, HA, HK1, gA, HK, HB⟩ := hrel
  have mA := (Kd.R_reads' gA.out).1
  rw [mA] at gA
  (try simp only [mA])
  cases gk with
  | zero => exact absurd HA.out (by simp [slices_Reverse_int_int.l0])
  | succ k1 =>
   have H := HA.out
   clear HA
   simp only [slices_Reverse_int_int.l0] at H
   by_cases c3 : bA < cA
   ·rw [if_pos c3] at H
    have uA : decide (bA < cA) = true := decide_eq_true c3
    clear c3
    by_cases c4 : 0 ≤ cA
    ·rw [if_pos c4] at H
     have CA : decide (0 ≤ cA) = true := decide_eq_true c4
     clear c4
     by_cases c5 : cA < (eA.length : Int)
     ·rw [if_pos c5] at H
      have DA : decide (cA < (eA.length : Int)) = true := decide_eq_true c5
      clear c5
      by_cases c6 : 0 ≤ bA
      ·rw [if_pos c6] at H
       have xA : decide (0 ≤ bA) = true := decide_eq_true c6
       clear c6
       by_cases c7 : bA < (eA.length : Int)
       ·rw [if_pos c7] at H
        have SA : decide (bA < (eA.length : Int)) = true := decide_eq_true c7
        clear c7
        obtain ⟨y277, hy277⟩ : ∃ y_ : List Int, y_ = (eA.set (bA : Int).toNat (rd eA cA)) := ⟨_, rfl⟩
        replace H : (slices_Reverse_int_int.l0 k1 (y277.set (cA : Int).toNat (rd eA bA)) (wrap64 (bA + 1)) (wrap64 (cA - 1))) = some r := by first | (rw [hy277]; with_reducible exact H) | (have H2_ := (Option.bind_some _ _).symm.trans H; rw [hy277]; with_reducible exact H2_) | (have H2_ := (Option.bind_some _ _).symm.trans H; with_reducible exact H2_) | with_reducible exact H | (rw [hy277]; exact H) | exact H
        have Ny277 := Z6a hy277
        clear hy277
        obtain ⟨y278, hy278⟩ : ∃ y_ : List Int, y_ = (y277.set (cA : Int).toNat (rd eA bA)) := ⟨_, rfl⟩
        replace H : (slices_Reverse_int_int.l0 k1 y278 (wrap64 (bA + 1)) (wrap64 (cA - 1))) = some r := by first | (rw [hy278]; with_reducible exact H) | (have H2_ := (Option.bind_some _ _).symm.trans H; rw [hy278]; with_reducible exact H2_) | (have H2_ := (Option.bind_some _ _).symm.trans H; with_reducible exact H2_) | with_reducible exact H | (rw [hy278]; exact H) | exact H
        have Ny278 := Z6a hy278
        clear hy278
        have H' := Z6a H
        clear H
        try go_wp2
        have kA := Z6a (Kd.R_drew gA.out)
        have qA := Z6a (Kept.drew HK.out)
        have lA := Z6a (below_drew1 HB.out)
        clear gA HK HB
        have gA := kA
        have HK := qA
        have HB := lA
        clear kA qA lA
        have p275 : 0 ≤ (cA : Int) := of_decide_eq_true Z6e
        have q275 : cA < (eA.length : Int) := of_decide_eq_true Z6e
        obtain ⟨ad275, FA, iA⟩ := Kd.at_int (Kd.R_reads' gA.out).2.2 cA p275 q275
        cases FA
        replace p275 := eq_true p275
        replace q275 := eq_true q275
        have p276 : 0 ≤ (bA : Int) := of_decide_eq_true Z6e
        have q276 : bA < (eA.length : Int) := of_decide_eq_true Z6e
        obtain ⟨ad276, GA, jA⟩ := Kd.at_int (Kd.R_reads' gA.out).2.2 bA p276 q276
        obtain rfl : ad275 = ad276 := (by injection GA)
        replace p276 := eq_true p276
        replace q276 := eq_true q276
        have p8 : 0 ≤ (bA : Int) := of_decide_eq_true Z6e
        have q8 : (bA : Int) < ((eA.length : Int) : Int) := of_decide_eq_true Z6e
        obtain ⟨go8, XA, LA, MA, gl8, cl8, HG8⟩ := Kd.R_form gA.out (by omega)
        (first | cases LA | (injection LA with ea_ en_ ec_; (first | subst ea_ | (injection ea_ with ea_; subst ea_)); subst ec_; clear en_))
        have GB8 := Z6a MA
        have GG8 := Z6a HG8
        clear MA gl8 HG8
        have tA := Z6a (show (P0_ go8 ∨ w.heap.size ≤ go8) from (gA.out.1 _ rfl))
        (first | simp only [add_plain] at iA | skip)
        (first | simp only [add_plain] at jA | skip)
        obtain ⟨yA, zA⟩ := Kd.R_celln 0 gA.out (bA : Int) p8 q8
        replace p8 := eq_true p8
        replace q8 := eq_true q8
        have HP11 := Kd.R_putn gA.out (bA : Int) (rd eA cA)
        rw [← Ny277.out] at HP11
        have HQ11 := Z6a HP11
        clear HP11
        have p9 : 0 ≤ (cA : Int) := of_decide_eq_true Z6e
        have q9 : (cA : Int) < ((eA.length : Int) : Int) := of_decide_eq_true Z6e
        obtain ⟨AA, BA⟩ := Kd.R_celln 0 HQ11.out (cA : Int) p9 q9
        replace p9 := eq_true p9
        replace q9 := eq_true q9
        have HP12 := Kd.R_putn HQ11.out (cA : Int) (rd eA bA)
        rw [← Ny278.out] at HP12
        have HQ12 := Z6a HP12
        clear HP12
        refine start_ (n := 16) (S := fun w' => w'.cell? ⟨go8, (cA).toNat, none⟩ = some (.int .i64 (rd eA cA)) ∧ w'.cell? ⟨go8, (bA).toNat, none⟩ = some (.int .i64 (rd eA bA))) (ds := [13, 15]) #[F,F,F,F,F,F,F,F,F,F,F,F,F,F,F,F] Z6b rfl rfl ⟨iA, jA⟩ (fun hHeld => ?_); refine with_tabW slices_Reverse_int_int.tab3 slices_Reverse_int_int.bits3 (fun HT_ HW_ => ?_)
        generalize wr.drew = JA at gA HK HB GG8 HQ11 HQ12 zA BA iA jA yA AA hHeld ⊢
        refine Z6c 0 14 #[T,F,F,F,F,F,F,F,F,F,F,F,F,F,F,F] ?_
        refine Z6c 1 15 #[T,T,F,F,F,F,F,F,F,F,F,F,F,F,F,F] ?_
        refine Z6c 2 16 #[T,T,T,F,F,F,F,F,F,F,F,F,F,F,F,F] ?_
        refine Z6c 3 17 #[T,T,T,T,F,F,F,F,F,F,F,F,F,F,F,F] ?_
        refine Z6c 4 18 #[T,T,T,T,T,F,F,F,F,F,F,F,F,F,F,F] ?_
        refine Z6c 5 19 #[T,T,T,T,T,T,F,F,F,F,F,F,F,F,F,F] ?_
        refine Z6c 6 20 #[T,T,T,T,T,T,T,F,F,F,F,F,F,F,F,F] ?_
        refine Z6c 8 22 #[T,T,T,T,T,T,T,F,T,F,F,F,F,F,F,F] ?_
        refine Z6c 9 23 #[T,T,T,T,T,T,T,F,T,T,F,F,F,F,F,F] ?_
        refine Z6c 10 24 #[T,T,T,T,T,T,T,F,T,T,T,F,F,F,F,F] ?_
        refine take_ (i := 7) (N := some 21) (v := ?_) (a' := ?_) #[T,T,T,T,T,T,T,T,T,T,T,F,F,F,F,F] rfl rfl (take_ofW HT_.out HW_.out Z6b) (fun _ _ _ h => h) (Or.inl ⟨by rfl, ?_⟩) hHeld ?_ ?_
        rotate_left
        ·rintro w' ⟨s0, s1⟩
         go_simp
         with_reducible rfl
        rotate_left
        ·simp only [Act.put, List.setIfInBounds_toArray, List.set_cons_zero, List.set_cons_succ, i64_w, i32_w]
         rfl
        refine take_ (i := 11) (N := some 25) (v := ?_) (a' := ?_) #[T,T,T,T,T,T,T,T,T,T,T,T,F,F,F,F] rfl rfl (take_ofW HT_.out HW_.out Z6b) (fun _ _ _ h => h) (Or.inl ⟨by rfl, ?_⟩) hHeld ?_ ?_
        rotate_left
        ·rintro w' ⟨s0, s1⟩
         go_simp
         with_reducible rfl
        rotate_left
        ·simp only [Act.put, List.setIfInBounds_toArray, List.set_cons_zero, List.set_cons_succ, i64_w, i32_w]
         rfl
        refine Z6c 12 26 #[T,T,T,T,T,T,T,T,T,T,T,T,T,F,F,F] ?_
        refine last_ (i := 13) (N := none) #[T,T,T,T,T,T,T,T,T,T,T,T,T,T,F,F] rfl rfl (one_of HT_.out Z6b) (by decide) (fun K hK => ?_)
        refine skip_ (w1 := ?_) (by rfl) rfl ?_ ?_
        rotate_left
        ·go_simp
         rfl
        refine hK.out _ _ ?_
        clear hK K
        refine Z6c 14 27 #[T,T,T,T,T,T,T,T,T,T,T,T,T,T,T,F] ?_
        refine last_ (i := 15) (N := none) #[T,T,T,T,T,T,T,T,T,T,T,T,T,T,T,T] rfl rfl (one_of HT_.out Z6b) (by decide) (fun K hK => ?_)
        refine skip_ (w1 := ?_) (by rfl) rfl ?_ ?_
        rotate_left
        ·go_simp
         rfl
        refine hK.out _ _ ?_
        clear hK K
        refine done_ (done_of HT_.out Z6b) ?_
        try go_wp2
        (try simp only [← mA])
        go_roundg k1
        case measure => have := HK1.out; omega
        case rel => exact ⟨(y278), (wrap64 (bA + 1)), (wrap64 (cA - 1)), Z6f, Z6f, H', ⟨by have := HK1.out; omega⟩, ⟨by (try simp only [mA]); (with_reducible repeat (first | apply Kd.R_alloc | apply Kd.R_drewN | apply Kd.R_drew)); exact HQ12.out⟩, ⟨by repeat (first | (with_reducible first | exact HK.out | apply Kept.alloc | apply Kept.drewN | apply Kept.drew | refine Kept.setCell ?_ tA.out _ | refine Kept.setCell ?_ tA.out _) | exact HK.out)⟩, ⟨by repeat (first | (with_reducible first | exact HB.out | apply below_alloc | apply pw_below_drewN | apply below_drew1 | refine below_set ?_ GB8.out | refine below_set ?_ GB8.out) | exact HB.out)⟩⟩
       ·rw [if_neg c7] at H
        exact absurd H (by simp)
      ·rw [if_neg c6] at H
       exact absurd H (by simp)
     ·rw [if_neg c5] at H
      exact absurd H (by simp)
    ·rw [if_neg c4] at H
     exact absurd H (by simp)
   ·rw [if_neg c3] at H
    have uA : decide (bA < cA) = false := decide_eq_false c3
    clear c3
    obtain rfl := Option.some.inj H
    go_wp2
    first | go_end0 | ((try simp only [Exit.inBlock, Exit.then]); refine bodyPost_ret (results_none rfl _ _ _) rfl ?_)
    exact ⟨by first | rfl | (simp [errW_none, errW_some] <;> rfl) | (simp [*, errW_none, errW_some] <;> rfl), (by first | exact (by (with_reducible repeat (first | apply Kd.R_alloc | apply Kd.R_drewN | apply Kd.R_drew)); exact gA.out) | (simp only [mA]; exact (by (with_reducible repeat (first | apply Kd.R_alloc | apply Kd.R_drewN | apply Kd.R_drew)); exact gA.out))), Z6g, by repeat (first | (with_reducible first | exact HK.out | apply Kept.alloc | apply Kept.drewN | apply Kept.drew) | exact HK.out)⟩

-- NOT PRINTED: function 87 (slices_rotateLeft_int)

-- NOT PRINTED: function 84 (slices_rotateRight_int)

-- NOT PRINTED: function 72 (slices_Insert_int_int)

-- NOT PRINTED: function 85 (slices_IndexFunc_int_int)

-- NOT PRINTED: function 73 (slices_DeleteFunc_int_int)

end Go.Proofs.Ytjikobdblohphaa.PFnListOne
