-- Written by the session's own patched copy of the printer (wip/patch_print.py).
import Derived.Test.YtjikobdblohphaaInsL
import Derived.Test.YtjikobdblohphaaPFnListOnex0
import Derived.Test.YtjikobdblohphaaPFnListOnex3
import Derived.Test.YtjikobdblohphaaPFnListOnex6
namespace Go.Proofs.Ytjikobdblohphaa.PFnListOne
open Go.RowKit Go.Proofs.YtjikobdblohphaaW.PrintWords Go.Proofs.YtjikobdblohphaaW.PrintLast Go.Proofs.YtjikobdblohphaaW.PrintMore
attribute [local go_sem] max2_int min2_int max_two min_two max_three min_three max_four min_four   -- for this text's walks alone
set_option linter.unusedVariables false
set_option linter.unusedSimpArgs false

theorem Z7k {w : World} {g : Nat} {t : TypeId} {cs : Array Value} (h : w.heap[g]? = some (.cells cs t (0, 0))) (i : Nat) (v : Value) (e : cs[i]? = some v := by rfl) : w.cell? ⟨g, i, none⟩ = some v := (blk_cell h i).trans e
theorem Z7a {p : Prop} (h : p) : Aside0 p := ⟨h⟩
theorem Z7h {w : World} {g : Nat} {t : TypeId} {cs : Array Value} (h : w.heap[g]? = some (.cells cs t (0, 0))) (i : Nat) : w.frozen? ⟨g, i, none⟩ = false := blk_frozen h i
theorem Z7d {p : Prop} (h : p := by repeat (first | (with_reducible first | exact HB.out | apply below_alloc | apply pw_below_drewN | apply below_drew1 | refine below_set ?_ (IsS86.ge jA.out)) | exact HB.out)) : p := h
theorem Z7c {p : Prop} (h : p := by repeat (first | (with_reducible first | exact jA.out | apply IsS86.alloc | apply IsS86.drewN | apply IsS86.drew | apply IsS86.set_1 | apply IsS86.set_2) | exact jA.out)) : p := h
theorem Z7b {p : Prop} (h : p := by repeat (first | (with_reducible first | exact HK.out | apply KeepBut.set_ | apply keep_drewN | apply keep_drew | apply keep_alloc) | exact HK.out)) : p := h
theorem Z7e {p : Prop} (h : p := by (try simp only [List.map_toArray, List.map_cons, List.map_nil]); first | done | rfl | (simp only [List.length_drop, List.length_take]; rfl)) : p := h
theorem Z7i {p : Prop} (h : p := by repeat (first | (with_reducible first | exact HBW.out | apply below_alloc | apply pw_below_drewN | apply below_drew1) | exact HBW.out)) : p := h
theorem Z7g {p : Prop} (h : p := by first | rfl | (simp [errW_none, errW_some] <;> rfl) | (simp [*, errW_none, errW_some] <;> rfl)) : p := h
theorem Z7j {p : Prop} (h : p := by repeat (first | (with_reducible first | exact HB.out | apply below_alloc | apply pw_below_drewN | apply below_drew1) | exact HB.out)) : p := h
theorem Z7l {p : Prop} (h : p := by repeat (first | (with_reducible first | exact HB.out | apply below_alloc | apply pw_below_drewN | apply below_drew1 | refine below_set ?_ (IsS86.ge sA.out)) | exact HB.out)) : p := h
theorem Z7f {p : Prop} (h : p := by first | rfl | (simp; done) | (simp [*]; done)) : p := h
theorem Z7m {p : Prop} (h : p := by (with_reducible repeat (first | apply Kd.R_alloc | apply Kd.R_drewN | apply Kd.R_drew)); exact BA.out) : p := h
/-! ### impl_LiApply: function 37 (walked by hand) -/
def impl_LiApply.l0 : Nat → Int → List Int → Int → Option Int
 | 0, _, _, _ => none
 | k + 1, x0, x6, x8 => if x8 < (x6.length : Int) then (if 0 ≤ x8 then (if rd x6 x8 < x0 then impl_LiApply.l0 k x0 x6 (wrap64 (x8 + 1)) else some x8) else none) else some x8
def impl_LiApply.f (l0 : List Int) (FA : Int) (bA : Int) (eA : Int) (aA : Int) (GA : Int) (IA : Int) (JA : Int) (KA : Int) : Option (List Int × Bool) := (impl_copyInts.f l0).bind fun o => (slices_Index_int_int.f (l0.length + 2) l0 eA).bind fun ix => if bA = 1 ∧ aA = 1 ∧ ix < 0 then ((impl_LiApply.l0 (o.length + 2) eA o 0).bind fun i => if 0 ≤ i ∧ i ≤ (o.length : Int) ∧ o.length < 17592186044415 then some (o.take i.toNat ++ [eA] ++ o.drop i.toNat, true) else none) else if bA = 2 ∧ aA = 1 ∧ 0 ≤ ix then (if 0 < o.length then some (o.filter (fun x => !decide (x = eA)), true) else none) else if (bA = 3 ∧ aA = 1 ∧ 0 ≤ ix) ∨ (bA = 1 ∧ aA = 4 ∧ 0 ≤ ix) then some (o, true) else if (bA = 2 ∨ bA = 3) ∧ aA = 4 ∧ ix < 0 then some (o, true) else some ([], false)
theorem heap_lt_ {w : World} {g : Nat} {o : Obj} (h : w.heap[g]? = some o) : g < w.heap.size := by
 rcases Nat.lt_or_ge g w.heap.size with h_ | h_
 ·exact h_
 ·rw [Array.getElem?_eq_none h_] at h
  cases h
set_option maxHeartbeats 8000000 in
set_option maxRecDepth 100000 in
theorem impl_LiApply.calls (AA : Option Addr) (c0 : Nat) (l0 : List Int) (FA : Int) (bA : Int) (eA : Int) (aA : Int) (GA : Int) (IA : Int) (JA : Int) (KA : Int) (r1 : List Int) (r2 : Bool) (w : World) (hr0 : Kd.C (Kd.int .i64) w AA l0.length l0) (hc0 : l0.length ≤ c0) (h : impl_LiApply.f l0 FA bA eA aA GA IA JA KA = some (r1, r2)) :
  Calls Try.prog 37 #[.slice AA l0.length c0, .agg #[.int .i64 FA, .int .i64 bA, .int .i64 eA, .int .i64 aA, .int .i64 GA, .int .i64 IA, .int .i64 JA, .int .i64 KA]] w fun e w' => ∃ v0_ : Value, e = .returned (.tuple #[v0_, .bool r2]) ∧ Kd.R (Kd.int .i64) 3 w' w.heap.size (fun _ => True) v0_ r1 ∧ Below w.heap.size w w' := by
 have hu58 := Try.underlying58
 have HR0 := Z7a hr0
 have HC0 := Z7a hc0
 clear hr0 hc0
 have HB := Z7a (Below.refl w.heap.size w)
 unfold impl_LiApply.f at h
 obtain ⟨o, A00, h⟩ := Option.bind_eq_some_iff.mp h
 obtain ⟨ix, A10, H⟩ := Option.bind_eq_some_iff.mp h
 clear h
 have A0 := Z7a A00
 have A1 := Z7a A10
 clear A00 A10
 have H0 := Z7a H
 clear H
 go_enter Try.func37, Try.ntmps37
 go_wp2_with (first | ((with_reducible refine gate_dst (N := 3) rfl ?_); refine box_event ?hg (N := 3) ?hd (cs := #[.int .i64 FA, .int .i64 bA, .int .i64 eA, .int .i64 aA, .int .i64 GA, .int .i64 IA, .int .i64 JA, .int .i64 KA]) (t := 58) ?hr ?_; (case hd => rfl); (case hg => rfl); (case hr => first | (go_simp; done) | (go_simp; rfl)); intro gb hg w4 hbox hb; have cA := Z7a (below_step HB.out hb); have dA := Z7a (hbox); have fA := Z7a ((by rw [hg]; exact (below_size HB.out)) : w.heap.size ≤ gb); have nl_ := Z7a ((heap_lt_ hbox) : gb < w4.heap.size); clear HB; have HB := cA; have BK := dA; have GW := fA; have GL := nl_; clear cA dA fA nl_; clear hb hbox hg))
 refine (impl_copyInts.calls AA c0 l0 o w4 (Kd.C_below HR0.out HB.out) HC0.out A0.out).mono ?_
 rintro e w5 ⟨vo, rfl, ho, hb⟩
 have HOB := Z7a (Kd.R_base ho)
 have HO := Z7a (Kd.R_lower ho (below_size HB.out))
 have HX := Z7a (fun k (hk : vo.ownBlock = some k) => (show k ≠ gb from fun e_ => by have h1_ := HOB.out k hk; have h2_ := GL.out; omega))
 have rB := Z7a ((hb.block gb GL.out).trans BK.out)
 replace HB := Z7a (below_step HB.out hb)
 clear HOB hb ho BK GL
 have hx1 := Z7k rB.out 1 (.int .i64 bA)
 have hx2 := Z7k rB.out 2 (.int .i64 eA)
 have hx3 := Z7k rB.out 3 (.int .i64 aA)
 go_wp2_with fail
 refine (slices_Index_int_int.calls (l0.length + 2) AA c0 l0 eA ix w5 (Kd.C_below HR0.out HB.out) HC0.out A1.out).mono ?_
 rintro e w6 ⟨rfl, ⟨nd, rfl⟩⟩
 have H := H0.out
 clear H0
 by_cases c1 : bA = 1 ∧ aA = 1 ∧ ix < 0
 ·rw [if_pos c1] at H
  obtain ⟨rfl, rfl, c1⟩ := c1
  obtain ⟨i, A20, h⟩ := Option.bind_eq_some_iff.mp H
  clear H
  have H := h
  clear h
  by_cases c2 : 0 ≤ i ∧ i ≤ (o.length : Int) ∧ o.length < 17592186044415
  ·rw [if_pos c2] at H
   obtain ⟨rfl, rfl⟩ := Prod.mk.inj (Option.some.inj H)
   have A2 := Z7a A20
   clear A20 H
   have hdx : decide (ix < 0) = true := decide_eq_true c1
   obtain ⟨A, c, rfl, hl_, hC⟩ := Kd.R_reads HO.out
   have HC := Z7a hC
   have HL := Z7a hl_
   clear hC hl_
   go_wp2_with fail
   go_loopg [8] (o.length + 2) (fun kq v8 w' => ∃ (x8 : Int), v8 = .int .i64 x8 ∧ Aside0 (impl_LiApply.l0 kq eA o x8 = some i) ∧ Aside0 (∃ q, w' = w5.drewN q))
   case atStart => exact ⟨0, rfl, A2, ⟨nd, rfl⟩⟩
   case round =>
    clear A2
    obtain ⟨x8, rfl, HA, HQ⟩ := hrel
    obtain ⟨q, rfl⟩ := HQ.out
    clear HQ
    have H := HA.out
    clear HA
    cases gk with
    | zero => exact absurd H (by simp [impl_LiApply.l0])
    | succ k2 =>
     rw [impl_LiApply.l0] at H
     by_cases b1 : x8 < (o.length : Int)
     ·rw [if_pos b1] at H
      by_cases b0 : 0 ≤ x8
      ·rw [if_pos b0] at H
       obtain ⟨ad, rfl, hx⟩ := Kd.at_int HC.out x8 b0 b1
       have H' := Z7a H
       clear H
       replace b0 := eq_true b0
       replace b1 := eq_true b1
       have hx' : (w5.drewN q).cell? (ad.add x8.toNat) = some (.int .i64 (rd o x8)) := hx
       go_wp2_with fail
       go_region
       by_cases b2 : rd o x8 < eA
       ·have H := H'.out
        clear H'
        rw [if_pos b2] at H
        have H' := Z7a H
        clear H
        have hd2 : decide (rd o x8 < eA) = true := decide_eq_true b2
        clear b2
        simp only [hd2]
        go_wp2_with fail
        go_roundg k2
        case measure => omega
        case rel => exact ⟨_, rfl, H', ⟨_, rfl⟩⟩
       ·have H := H'.out
        clear H'
        rw [if_neg b2] at H
        obtain rfl := Option.some.inj H
        clear H
        have hd2 : decide (rd o x8 < eA) = false := decide_eq_false b2
        clear b2
        simp only [hd2]
        go_wp2_with fail
        obtain ⟨m, rfl⟩ : ∃ m : Nat, x8 = (m : Int) := ⟨x8.toNat, by have := c2.1; omega⟩
        refine (ins_calls w _ (some ad) c o m eA w5.heap.size 1 0 (fun _ => True) (below_alloc (pw_below_drewN HB.out (q + 1)) _) (Kd.R_alloc (Kd.R_drewN HO.out (q + 1)) _) (own_fin (ys := [eA]) (alloc_at_ (w5.drewN (q + 1)) _) (Nat.zero_le _) rfl (Nat.le_refl 1) (by decide) rfl rfl) (fun k hk e_ => by have h_ := Kd.R_lt HO.out k hk; omega) (by have := c2.2.1; omega) c2.2.2).mono ?_
        rintro e w7 ⟨v1, rfl, VA, HB7⟩
        go_wp2
        go_ret2
        exact ⟨_, rfl, VA, HB7⟩
      ·rw [if_neg b0] at H
       cases H
     ·rw [if_neg b1] at H
      obtain rfl := Option.some.inj H
      clear H
      have hd1 : decide (x8 < (o.length : Int)) = false := decide_eq_false b1
      go_wp2_with fail
      go_region
      go_wp2_with fail
      obtain ⟨m, rfl⟩ : ∃ m : Nat, x8 = (m : Int) := ⟨x8.toNat, by have := c2.1; omega⟩
      refine (ins_calls w _ A c o m eA w5.heap.size 1 0 (fun _ => True) (below_alloc (pw_below_drewN HB.out (q + 1)) _) (Kd.R_alloc (Kd.R_drewN HO.out (q + 1)) _) (own_fin (ys := [eA]) (alloc_at_ (w5.drewN (q + 1)) _) (Nat.zero_le _) rfl (Nat.le_refl 1) (by decide) rfl rfl) (fun k hk e_ => by have h_ := Kd.R_lt HO.out k hk; omega) (by have := c2.2.1; omega) c2.2.2).mono ?_
      rintro e w7 ⟨v1, rfl, VA, HB7⟩
      go_wp2
      go_ret2
      exact ⟨_, rfl, VA, HB7⟩
  ·rw [if_neg c2] at H
   cases H
 ·rw [if_neg c1] at H
  by_cases c3 : bA = 2 ∧ aA = 1 ∧ 0 ≤ ix
  ·rw [if_pos c3] at H
   obtain ⟨rfl, rfl, c3⟩ := c3
   by_cases c4 : 0 < o.length
   ·rw [if_pos c4] at H
    obtain ⟨rfl, rfl⟩ := Prod.mk.inj (Option.some.inj H)
    clear H c1
    have hdx : decide (ix < 0) = false := decide_eq_false (by omega)
    have hdy : decide (0 ≤ ix) = true := decide_eq_true c3
    go_wp2_with fail
    refine (del_calls w _ vo o eA gb _ 58 (pw_below_drewN HB.out nd) (Kd.R_drewN HO.out nd) c4 (blk_drewN rB.out nd) rfl (fun e_ => HX.out gb e_.symm rfl)).mono ?_
    rintro e w7 ⟨v1, rfl, VA, HB7⟩
    go_wp2
    go_ret2
    exact ⟨_, rfl, VA, HB7⟩
   ·rw [if_neg c4] at H
    cases H
  ·rw [if_neg c3] at H
   by_cases cx : ix < 0
   ·have hdx : decide (ix < 0) = true := decide_eq_true cx
    have hdy : decide (0 ≤ ix) = false := decide_eq_false (by omega)
    by_cases r4 : aA = 4
    ·subst r4
     by_cases k2 : bA = 2
     ·subst k2
      rw [if_neg (by omega), if_pos (by omega)] at H
      obtain ⟨rfl, rfl⟩ := Prod.mk.inj (Option.some.inj H)
      clear H c1 c3
      go_wp2
      go_ret2
      exact ⟨_, rfl, Kd.R_drewN HO.out nd, pw_below_drewN HB.out nd⟩
     ·by_cases k3 : bA = 3
      ·subst k3
       rw [if_neg (by omega), if_pos (by omega)] at H
       obtain ⟨rfl, rfl⟩ := Prod.mk.inj (Option.some.inj H)
       clear H c1 c3
       go_wp2
       go_ret2
       exact ⟨_, rfl, Kd.R_drewN HO.out nd, pw_below_drewN HB.out nd⟩
      ·rw [if_neg (by omega), if_neg (by omega)] at H
       obtain ⟨rfl, rfl⟩ := Prod.mk.inj (Option.some.inj H)
       clear H c1 c3
       by_cases k1 : bA = 1
       ·subst k1
        go_wp2
        go_ret2
        exact ⟨_, rfl, Kd.R_nil _ _ _ _ _, pw_below_drewN HB.out nd⟩
       ·have e1 : (bA == 1) = false := by simp [k1]
        have e2 : (bA == 2) = false := by simp [k2]
        have e3 : (bA == 3) = false := by simp [k3]
        go_wp2
        go_ret2
        exact ⟨_, rfl, Kd.R_nil _ _ _ _ _, pw_below_drewN HB.out nd⟩
    ·rw [if_neg (by omega), if_neg (by omega)] at H
     obtain ⟨rfl, rfl⟩ := Prod.mk.inj (Option.some.inj H)
     have er4 : (aA == 4) = false := by simp [r4]
     by_cases k1 : bA = 1
     ·have hr1 : aA ≠ 1 := fun h_ => c1 ⟨k1, h_, cx⟩
      have er1 : (aA == 1) = false := by simp [hr1]
      subst k1
      clear H c1 c3
      go_wp2
      go_ret2
      exact ⟨_, rfl, Kd.R_nil _ _ _ _ _, pw_below_drewN HB.out nd⟩
     ·have e1 : (bA == 1) = false := by simp [k1]
      by_cases k2 : bA = 2
      ·subst k2
       clear H c1 c3
       by_cases r1 : aA = 1
       ·subst r1
        go_wp2
        go_ret2
        exact ⟨_, rfl, Kd.R_nil _ _ _ _ _, pw_below_drewN HB.out nd⟩
       ·have er1 : (aA == 1) = false := by simp [r1]
        go_wp2
        go_ret2
        exact ⟨_, rfl, Kd.R_nil _ _ _ _ _, pw_below_drewN HB.out nd⟩
      ·have e2 : (bA == 2) = false := by simp [k2]
       by_cases k3 : bA = 3
       ·subst k3
        clear H c1 c3
        by_cases r1 : aA = 1
        ·subst r1
         go_wp2
         go_ret2
         exact ⟨_, rfl, Kd.R_nil _ _ _ _ _, pw_below_drewN HB.out nd⟩
        ·have er1 : (aA == 1) = false := by simp [r1]
         go_wp2
         go_ret2
         exact ⟨_, rfl, Kd.R_nil _ _ _ _ _, pw_below_drewN HB.out nd⟩
       ·have e3 : (bA == 3) = false := by simp [k3]
        clear H c1 c3
        go_wp2
        go_ret2
        exact ⟨_, rfl, Kd.R_nil _ _ _ _ _, pw_below_drewN HB.out nd⟩
   ·have hdx : decide (ix < 0) = false := decide_eq_false cx
    have hdy : decide (0 ≤ ix) = true := decide_eq_true (by omega)
    by_cases k1 : bA = 1
    ·subst k1
     by_cases r4 : aA = 4
     ·subst r4
      rw [if_pos (by omega)] at H
      obtain ⟨rfl, rfl⟩ := Prod.mk.inj (Option.some.inj H)
      clear H c1 c3
      go_wp2
      go_ret2
      exact ⟨_, rfl, Kd.R_drewN HO.out nd, pw_below_drewN HB.out nd⟩
     ·have er4 : (aA == 4) = false := by simp [r4]
      rw [if_neg (by omega), if_neg (by omega)] at H
      obtain ⟨rfl, rfl⟩ := Prod.mk.inj (Option.some.inj H)
      clear H c1 c3
      by_cases r1 : aA = 1
      ·subst r1
       go_wp2
       go_ret2
       exact ⟨_, rfl, Kd.R_nil _ _ _ _ _, pw_below_drewN HB.out nd⟩
      ·have er1 : (aA == 1) = false := by simp [r1]
       go_wp2
       go_ret2
       exact ⟨_, rfl, Kd.R_nil _ _ _ _ _, pw_below_drewN HB.out nd⟩
    ·have e1 : (bA == 1) = false := by simp [k1]
     by_cases k3 : bA = 3
     ·subst k3
      by_cases r1 : aA = 1
      ·subst r1
       rw [if_pos (by omega)] at H
       obtain ⟨rfl, rfl⟩ := Prod.mk.inj (Option.some.inj H)
       clear H c1 c3
       go_wp2
       go_ret2
       exact ⟨_, rfl, Kd.R_drewN HO.out nd, pw_below_drewN HB.out nd⟩
      ·have er1 : (aA == 1) = false := by simp [r1]
       rw [if_neg (by omega), if_neg (by omega)] at H
       obtain ⟨rfl, rfl⟩ := Prod.mk.inj (Option.some.inj H)
       clear H c1 c3
       by_cases r4 : aA = 4
       ·subst r4
        go_wp2
        go_ret2
        exact ⟨_, rfl, Kd.R_nil _ _ _ _ _, pw_below_drewN HB.out nd⟩
       ·have er4 : (aA == 4) = false := by simp [r4]
        go_wp2
        go_ret2
        exact ⟨_, rfl, Kd.R_nil _ _ _ _ _, pw_below_drewN HB.out nd⟩
     ·have e3 : (bA == 3) = false := by simp [k3]
      rw [if_neg (by omega), if_neg (by omega)] at H
      obtain ⟨rfl, rfl⟩ := Prod.mk.inj (Option.some.inj H)
      by_cases k2 : bA = 2
      ·have hr1 : aA ≠ 1 := fun h_ => c3 ⟨k2, h_, by omega⟩
       have er1 : (aA == 1) = false := by simp [hr1]
       subst k2
       clear H c1 c3
       by_cases r4 : aA = 4
       ·subst r4
        go_wp2
        go_ret2
        exact ⟨_, rfl, Kd.R_nil _ _ _ _ _, pw_below_drewN HB.out nd⟩
       ·have er4 : (aA == 4) = false := by simp [r4]
        go_wp2
        go_ret2
        exact ⟨_, rfl, Kd.R_nil _ _ _ _ _, pw_below_drewN HB.out nd⟩
      ·have e2 : (bA == 2) = false := by simp [k2]
       clear H c1 c3
       go_wp2
       go_ret2
       exact ⟨_, rfl, Kd.R_nil _ _ _ _ _, pw_below_drewN HB.out nd⟩


/-- A state of type 86 at block g of W; what its slices lead to came in by w0. -/
def IsS86 (w0 W : World) (g : Nat) (f0 : List Int) (f1 : Int) (f2 : Int) : Prop := ∃ A0 c0, W.heap[g]? = some (.cells #[.slice A0 f0.length c0, .int .i64 f1, .int .i64 f2] 86 (0, 0)) ∧ w0.heap.size ≤ g ∧ Kd.C (Kd.int .u8) w0 A0 f0.length f0
theorem IsS86.grown {w0 W : World} {g : Nat} {f0 : List Int} {f1 : Int} {f2 : Int} {W1 : World} {row : Option Nat} (h : IsS86 w0 W g f0 f1 f2) (hw : W.grownBy W1 row) (hne : some g ≠ row) : IsS86 w0 W1 g f0 f1 f2 := by
 obtain ⟨A0, c0, hb, hg, hr0⟩ := h
 exact ⟨A0, c0, blk_grown hb hw hne, hg, hr0⟩
theorem IsS86.own_neN {w0 W : World} {g : Nat} {f0 : List Int} {f1 : Int} {f2 : Int} {α : Type} {d : Kd α} {e : Nat} {base : Nat} {ok : Nat → Prop} {v : Value} {xs : List α} (h : IsS86 w0 W g f0 f1 f2) (ho : Kd.N d e W base ok v xs) (ht : e ≠ 86) : some g ≠ v.ownBlock := by
 obtain ⟨A0, c0, hb, hg, hr0⟩ := h
 exact Kd.N_ne ho hb ht
theorem IsS86.fresh {w0 W : World} {g : Nat} {f0 : List Int} {f1 : Int} {f2 : Int} (h : IsS86 w0 W g f0 f1 f2) : ∀ k, W.heap.size ≤ k → k ≠ g := by
 obtain ⟨A0, c0, hb, hg, hr0⟩ := h
 exact Kd.freshB hb
theorem IsS86.kept {w0 W : World} {g : Nat} {f0 : List Int} {f1 : Int} {f2 : Int} {W1 : World} {S : Nat → Prop} (h : IsS86 w0 W g f0 f1 f2) (hk : Kept W W1 S) (hne : ¬ S g) : IsS86 w0 W1 g f0 f1 f2 := by
 obtain ⟨A0, c0, hb, hg, hr0⟩ := h
 exact ⟨A0, c0, blk_kept hb hk hne, hg, hr0⟩
theorem IsS86.below {w0 W : World} {g : Nat} {f0 : List Int} {f1 : Int} {f2 : Int} {W1 : World} (h : IsS86 w0 W g f0 f1 f2) (hw : Below W.heap.size W W1) : IsS86 w0 W1 g f0 f1 f2 := h.grown (grown_of_below hw none) (by simp)
theorem IsS86.alloc {w0 W : World} {g : Nat} {f0 : List Int} {f1 : Int} {f2 : Int} (h : IsS86 w0 W g f0 f1 f2) (o : Obj) : IsS86 w0 (W.alloc o) g f0 f1 f2 := h.below (below_alloc (Below.refl _ _) o)
theorem IsS86.drewN {w0 W : World} {g : Nat} {f0 : List Int} {f1 : Int} {f2 : Int} (h : IsS86 w0 W g f0 f1 f2) (m : Nat) : IsS86 w0 (W.drewN m) g f0 f1 f2 := h
theorem IsS86.drew {w0 W : World} {g : Nat} {f0 : List Int} {f1 : Int} {f2 : Int} (h : IsS86 w0 W g f0 f1 f2) : IsS86 w0 W.drew g f0 f1 f2 := h
theorem IsS86.at_ {w0 W : World} {g : Nat} {f0 : List Int} {f1 : Int} {f2 : Int} {w' : World} {m : Nat} (hq : W.drewN m = w') (h : IsS86 w0 W g f0 f1 f2) : IsS86 w0 w' g f0 f1 f2 := by subst hq; exact IsS86.drewN h m
theorem IsS86.apart {w0 W : World} {g : Nat} {f0 : List Int} {f1 : Int} {f2 : Int} {α : Type} {d : Kd α} {e : Nat} {base : Nat} {ok : Nat → Prop} {v : Value} {xs : List α} (h : IsS86 w0 W g f0 f1 f2) (ho : d.R e W base ok v xs) (ht : ∀ q, q ∈ e :: d.E → q ≠ 86) : d.R e W base (fun k => ok k ∧ k ≠ g) v xs := by
 obtain ⟨A0, c0, hb, hg, hr0⟩ := h
 exact Kd.R_types ho hb ht
theorem IsS86.own_ne {w0 W : World} {g : Nat} {f0 : List Int} {f1 : Int} {f2 : Int} {α : Type} {d : Kd α} {e : Nat} {base : Nat} {ok : Nat → Prop} {v : Value} {xs : List α} (h : IsS86 w0 W g f0 f1 f2) (ho : d.R e W base ok v xs) (ht : e ≠ 86) : some g ≠ v.ownBlock := by
 obtain ⟨A0, c0, hb, hg, hr0⟩ := h
 exact Kd.R_ne ho hb ht
theorem IsS86.apartQ {w0 W : World} {g : Nat} {f0 : List Int} {f1 : Int} {f2 : Int} {α : Type} {d : Kd α} {e : Nat} {base : Nat} {ok : Nat → Prop} {v : Value} {xs : List α} (h : IsS86 w0 W g f0 f1 f2) (ho : d.Q e W base ok v xs) (ht : ∀ q, q ∈ e :: d.E → q ≠ 86) : d.Q e W base (fun k => ok k ∧ k ≠ g) v xs := by
 obtain ⟨A0, c0, hb, hg, hr0⟩ := h
 exact Kd.Q_types ho hb ht
theorem IsS86.own_neQ {w0 W : World} {g : Nat} {f0 : List Int} {f1 : Int} {f2 : Int} {α : Type} {d : Kd α} {e : Nat} {base : Nat} {ok : Nat → Prop} {v : Value} {xs : List α} (h : IsS86 w0 W g f0 f1 f2) (ho : d.Q e W base ok v xs) (ht : e ≠ 86) : some g ≠ v.ownBlock := by
 obtain ⟨A0, c0, hb, hg, hr0⟩ := h
 exact Kd.Q_ne ho hb ht
theorem IsS86.apartS {w0 W : World} {g : Nat} {f0 : List Int} {f1 : Int} {f2 : Int} {α : Type} {d : Kd α} {e : Nat} {base : Nat} {ok : Nat → Prop} {v : Value} {xs : List α} (h : IsS86 w0 W g f0 f1 f2) (ho : d.S e W base ok v xs) (ht : ∀ q, q ∈ e :: d.E → q ≠ 86) : d.S e W base (fun k => ok k ∧ k ≠ g) v xs := by
 obtain ⟨A0, c0, hb, hg, hr0⟩ := h
 exact Kd.S_types ho hb ht
theorem IsS86.own_neS {w0 W : World} {g : Nat} {f0 : List Int} {f1 : Int} {f2 : Int} {α : Type} {d : Kd α} {e : Nat} {base : Nat} {ok : Nat → Prop} {v : Value} {xs : List α} (h : IsS86 w0 W g f0 f1 f2) (ho : d.S e W base ok v xs) (ht : e ≠ 86) : some g ≠ v.ownBlock := by
 obtain ⟨A0, c0, hb, hg, hr0⟩ := h
 exact Kd.S_ne ho hb ht
theorem IsS86.lt {w0 W : World} {g : Nat} {f0 : List Int} {f1 : Int} {f2 : Int} (h : IsS86 w0 W g f0 f1 f2) : g < W.heap.size := by
 obtain ⟨A0, c0, hb, hg, hr0⟩ := h
 exact blk_lt hb
theorem IsS86.ge {w0 W : World} {g : Nat} {f0 : List Int} {f1 : Int} {f2 : Int} (h : IsS86 w0 W g f0 f1 f2) : w0.heap.size ≤ g := by
 obtain ⟨A0, c0, hb, hg, hr0⟩ := h
 exact hg
theorem IsS86.ne_blk {w0 W : World} {g : Nat} {f0 : List Int} {f1 : Int} {f2 : Int} {a : Nat} {cs : Array Value} {t : TypeId} {fr : Nat × Nat} (h : IsS86 w0 W g f0 f1 f2) (hb2 : W.heap[a]? = some (.cells cs t fr)) (ht : t ≠ 86) : g ≠ a := by
 obtain ⟨A0, c0, hb, hg, hr0⟩ := h
 rintro rfl
 rw [hb] at hb2
 injection hb2 with hb2
 injection hb2 with _ ht2
 exact ht ht2.symm
theorem IsS86.far {w0 W : World} {g : Nat} {f0 : List Int} {f1 : Int} {f2 : Int} {p : Addr} (h : IsS86 w0 W g f0 f1 f2) (hne : g ≠ p.block) (u : Value) : IsS86 w0 (W.setCell p u) g f0 f1 f2 := by
 obtain ⟨A0, c0, hb, hg, hr0⟩ := h
 exact ⟨A0, c0, blk_far hb hne u, hg, hr0⟩
theorem IsS86.far_ {w0 W : World} {g : Nat} {f0 : List Int} {f1 : Int} {f2 : Int} {a o : Nat} {u : Value} (hne : g ≠ a) (h : IsS86 w0 W g f0 f1 f2) : IsS86 w0 (W.setCell ⟨a, o, none⟩ u) g f0 f1 f2 := IsS86.far (p := ⟨a, o, none⟩) h hne u
theorem cellS86_0 {W : World} {g : Nat} {A0 : Option Addr} {c0 : Nat} {f0 : List Int} {f1 : Int} {f2 : Int} (h : W.heap[g]? = some (.cells #[.slice A0 f0.length c0, .int .i64 f1, .int .i64 f2] 86 (0, 0))) : W.cell? ⟨g, 0, none⟩ = some (.slice A0 f0.length c0) := (blk_cell h 0).trans rfl
theorem cellS86_1 {W : World} {g : Nat} {A0 : Option Addr} {c0 : Nat} {f0 : List Int} {f1 : Int} {f2 : Int} (h : W.heap[g]? = some (.cells #[.slice A0 f0.length c0, .int .i64 f1, .int .i64 f2] 86 (0, 0))) : W.cell? ⟨g, 1, none⟩ = some (.int .i64 f1) := (blk_cell h 1).trans rfl
theorem IsS86.set_1 {w0 W : World} {g : Nat} {f0 : List Int} {f1 : Int} {f2 : Int} (h : IsS86 w0 W g f0 f1 f2) (x : Int) : IsS86 w0 (W.setCell ⟨g, 1, none⟩ (.int .i64 x)) g f0 x f2 := by
 obtain ⟨A0, c0, hb, hg, hr0⟩ := h
 exact ⟨A0, c0, by simpa using blk_set hb 1 (.int .i64 x), hg, hr0⟩
theorem cellS86_2 {W : World} {g : Nat} {A0 : Option Addr} {c0 : Nat} {f0 : List Int} {f1 : Int} {f2 : Int} (h : W.heap[g]? = some (.cells #[.slice A0 f0.length c0, .int .i64 f1, .int .i64 f2] 86 (0, 0))) : W.cell? ⟨g, 2, none⟩ = some (.int .i64 f2) := (blk_cell h 2).trans rfl
theorem IsS86.set_2 {w0 W : World} {g : Nat} {f0 : List Int} {f1 : Int} {f2 : Int} (h : IsS86 w0 W g f0 f1 f2) (x : Int) : IsS86 w0 (W.setCell ⟨g, 2, none⟩ (.int .i64 x)) g f0 f1 x := by
 obtain ⟨A0, c0, hb, hg, hr0⟩ := h
 exact ⟨A0, c0, by simpa using blk_set hb 2 (.int .i64 x), hg, hr0⟩
theorem IsS86.new (w0 W : World) (A0 : Option Addr) (c0 : Nat) (f0 : List Int) (f1 : Int) (f2 : Int) (hB : Below w0.heap.size w0 W) (hr0 : Kd.C (Kd.int .u8) w0 A0 f0.length f0) : IsS86 w0 (W.alloc (.cells #[.slice A0 f0.length c0, .int .i64 f1, .int .i64 f2] 86)) W.heap.size f0 f1 f2 := ⟨A0, c0, by simpa using heap_alloc_new W _, hB.size, hr0⟩

/-! ### spec_l01New: function 75 -/
def spec_l01New.l0 : Nat → List Int → Int → Int → Option (List Int × Int × Int)
 | 0, _, _, _ => none
 | k + 1, x0, x3, x4 => if x4 < (x0.length : Int) then (if x4 < 4000 then (if 0 ≤ x4 then (spec_l01New.l0 k x0 (Go.bits .and .i64 (wrap64 ((wrap64 ((wrap64 (x3 * 179)) + (wrap64 (rd x0 x4)))) + 7)) 1073741823) (wrap64 (x4 + 1))) else (none)) else (some (x0, 0, x3))) else (some (x0, 0, x3))
def spec_l01New.f (k : Nat) (l0 : List Int) : Option (List Int × Int × Int) := spec_l01New.l0 k l0 (wrap64 (774119 + (l0.length : Int))) 0
theorem spec_l01New.mono_l : ∀ k, (∀ y0 y1 y2, LeO (spec_l01New.l0 k y0 y1 y2) (spec_l01New.l0 (k + 1) y0 y1 y2))
 | 0 => fun _ _ _ r h => by simp [spec_l01New.l0] at h
 | k + 1 => by
  have ih0 := spec_l01New.mono_l k
  ·intro y0 y1 y2
   unfold spec_l01New.l0
   repeat' first
   | (with_reducible exact ih0 _ _ _)
   | (with_reducible exact LeO.refl _)
   | (with_reducible exact LeO.none _)
   | (with_reducible refine LeO.ite ?_ ?_)
   | (with_reducible refine LeO.bind ?_ (fun _ => ?_))
   | exact ih0 _ _ _
   | exact LeO.none _
   | refine LeO.ite ?_ ?_
   | refine LeO.bind ?_ (fun _ => ?_)
theorem spec_l01New.mono : ∀ a0 k, LeO (spec_l01New.f k a0) (spec_l01New.f (k + 1) a0) := by
 intro a0 k
 have ih0 := spec_l01New.mono_l k
 unfold spec_l01New.f
 repeat' first
   | (with_reducible exact ih0 _ _ _)
   | (with_reducible exact LeO.refl _)
   | (with_reducible exact LeO.none _)
   | (with_reducible refine LeO.ite ?_ ?_)
   | (with_reducible refine LeO.bind ?_ (fun _ => ?_))
   | exact ih0 _ _ _
   | exact LeO.none _
   | refine LeO.ite ?_ ?_
   | refine LeO.bind ?_ (fun _ => ?_)
set_option maxHeartbeats 8000000 in
set_option maxRecDepth 100000 in
theorem spec_l01New.calls (k : Nat) (A0 : Option Addr) (c0 : Nat) (l0 : List Int) (r1 : List Int) (r2 : Int) (r3 : Int) (w0 w : World) (hB : Below w0.heap.size w0 w) (hr0 : Kd.C (Kd.int .u8) w0 A0 l0.length l0) (hc0 : l0.length ≤ c0) (h : spec_l01New.f k l0 = some (r1, r2, r3)) :
  Calls Try.prog 75 #[.slice A0 l0.length c0] w fun e w' => ∃ g_ : Nat, e = .returned (.pointer (some ⟨g_, 0, none⟩)) ∧ IsS86 w0 w' g_ r1 r2 r3 ∧ Below w0.heap.size w0 w' ∧ Below w.heap.size w w' := by
 have hu86 := Try.underlying86
 have HR0 := Z7a hr0
 clear hr0 hc0
 have HBW := Z7a (Below.refl w.heap.size w)
 have HW0 := Z7a hB.size
 have HB := Z7a hB
 clear hB
 have H : (spec_l01New.l0 k l0 (wrap64 (774119 + (l0.length : Int))) 0) = some (r1, r2, r3) := h
 clear h
 have H' := Z7a H
 clear H
 go_enter Try.func75, Try.ntmps75
 go_wp2
 go_loopg [3, 4] k (fun kq v3 v4 w' => ∃ (tA : Int) (iA : Int), v3 = .int .i64 tA ∧ v4 = .int .i64 iA ∧ Aside0 (spec_l01New.l0 kq l0 tA iA = some (r1, r2, r3)) ∧ Aside0 (kq ≤ k) ∧ Aside0 (Below w0.heap.size w0 w') ∧ Aside0 (Below w.heap.size w w'))
 case atStart => exact ⟨(wrap64 (774119 + (l0.length : Int))), (0), Z7f, Z7f, H', ⟨Nat.le_refl _⟩, ⟨Z7j⟩, ⟨Z7i⟩⟩
 case round =>
  clear H'
  obtain ⟨tA, iA, rfl, rfl, HA, HK1, HB, HBW⟩ := hrel
  cases gk with
  | zero => exact absurd HA.out (by simp [spec_l01New.l0])
  | succ k1 =>
   have H := HA.out
   clear HA
   simp only [spec_l01New.l0] at H
   by_cases c2 : iA < (l0.length : Int)
   ·rw [if_pos c2] at H
    have SA : decide (iA < (l0.length : Int)) = true := decide_eq_true c2
    clear c2
    by_cases c3 : iA < 4000
    ·rw [if_pos c3] at H
     have LA : decide (iA < 4000) = true := decide_eq_true c3
     clear c3
     by_cases c4 : 0 ≤ iA
     ·rw [if_pos c4] at H
      have WA : decide (0 ≤ iA) = true := decide_eq_true c4
      clear c4
      have H' := Z7a H
      clear H
      have p290 : 0 ≤ (iA : Int) := of_decide_eq_true (by first | (with_reducible assumption) | assumption)
      have q290 : iA < (l0.length : Int) := of_decide_eq_true (by first | (with_reducible assumption) | assumption)
      obtain ⟨ad290, sB, wA⟩ := Kd.at_int HR0.out iA p290 q290
      cases sB
      replace wA := pw_cell_below HB.out wA
      replace p290 := eq_true p290
      replace q290 := eq_true q290
      go_wp2
      go_roundg k1
      case measure => have := HK1.out; omega
      case rel => exact ⟨(Go.bits .and .i64 (wrap64 ((wrap64 ((wrap64 (tA * 179)) + (wrap64 (rd l0 iA)))) + 7)) 1073741823), (wrap64 (iA + 1)), Z7f, Z7f, H', ⟨by have := HK1.out; omega⟩, ⟨Z7j⟩, ⟨Z7i⟩⟩
     ·rw [if_neg c4] at H
      exact absurd H (by simp)
    ·rw [if_neg c3] at H
     have LA : decide (iA < 4000) = false := decide_eq_false c3
     clear c3
     simp only [Option.some.injEq, Prod.mk.injEq] at H
     obtain ⟨rfl, rfl, rfl⟩ := H
     go_wp2_with (first | ((with_reducible refine gate_dst (N := 31) rfl ?_); refine box_event ?hg (N := 31) ?hd (cs := #[.slice A0 l0.length c0, .int .i64 0, .int .i64 tA]) (t := 86) ?hr ?_; (case hd => rfl); (case hg => rfl); (case hr => first | (go_simp; done) | (go_simp; rfl)); intro xA hg w5 hbox hb; have cA := Z7a (below_step HBW.out hb); have dA := Z7a (below_step Z7j hb); have fA := Z7a (hbox); have uA := Z7a ((by rw [hg]; exact (below_size Z7i) : w.heap.size ≤ xA)); have XA := Z7a ((Nat.le_trans HW0.out (by rw [hg]; exact (below_size Z7i) : w.heap.size ≤ xA) : w0.heap.size ≤ xA)); clear HBW HB; have HBW := cA; have HB := dA; have YA := fA; have ZA := uA; have NA := XA; clear cA dA fA uA XA; clear hb hbox hg))
     go_ret
     exact ⟨_, rfl, (show IsS86 w0 _ xA l0 0 tA from ⟨_, _, by (with_reducible repeat (first | refine blk_drewN ?_ _ | refine blk_drew ?_ | refine blk_alloc ?_ _)); exact YA.out, NA.out, HR0.out⟩), by repeat (first | (with_reducible first | exact HB.out | apply below_alloc | apply pw_below_drewN | apply below_drew1 | refine below_set ?_ NA.out) | exact HB.out), by repeat (first | (with_reducible first | exact HBW.out | apply below_alloc | apply pw_below_drewN | apply below_drew1 | refine below_set ?_ ZA.out) | exact HBW.out)⟩
   ·rw [if_neg c2] at H
    have SA : decide (iA < (l0.length : Int)) = false := decide_eq_false c2
    clear c2
    simp only [Option.some.injEq, Prod.mk.injEq] at H
    obtain ⟨rfl, rfl, rfl⟩ := H
    go_wp2_with (first | ((with_reducible refine gate_dst (N := 31) rfl ?_); refine box_event ?hg (N := 31) ?hd (cs := #[.slice A0 l0.length c0, .int .i64 0, .int .i64 tA]) (t := 86) ?hr ?_; (case hd => rfl); (case hg => rfl); (case hr => first | (go_simp; done) | (go_simp; rfl)); intro yA hg w6 hbox hb; have cA := Z7a (below_step HBW.out hb); have dA := Z7a (below_step Z7j hb); have fA := Z7a (hbox); have uA := Z7a ((by rw [hg]; exact (below_size Z7i) : w.heap.size ≤ yA)); have XA := Z7a ((Nat.le_trans HW0.out (by rw [hg]; exact (below_size Z7i) : w.heap.size ≤ yA) : w0.heap.size ≤ yA)); clear HBW HB; have HBW := cA; have HB := dA; have aB := fA; have bB := uA; have OA := XA; clear cA dA fA uA XA; clear hb hbox hg))
    go_ret
    exact ⟨_, rfl, (show IsS86 w0 _ yA l0 0 tA from ⟨_, _, by (with_reducible repeat (first | refine blk_drewN ?_ _ | refine blk_drew ?_ | refine blk_alloc ?_ _)); exact aB.out, OA.out, HR0.out⟩), by repeat (first | (with_reducible first | exact HB.out | apply below_alloc | apply pw_below_drewN | apply below_drew1 | refine below_set ?_ OA.out) | exact HB.out), by repeat (first | (with_reducible first | exact HBW.out | apply below_alloc | apply pw_below_drewN | apply below_drew1 | refine below_set ?_ bB.out) | exact HBW.out)⟩

/-! ### spec_l01Byte: function 88 -/
def spec_l01Byte.f (s0_0 : List Int) (s0_1 : Int) (s0_2 : Int) : Option (Int × Int × Int) := if s0_1 < (s0_0.length : Int) then (if 0 ≤ s0_1 then (some (Go.bits .and .i64 (wrap64 ((Go.bits .and .i64 (Go.bits .xor .i64 ((wrap64 ((wrap64 (s0_2 * 6364136223846793005)) + 1442695040888963407)) / 8589934592) ((wrap64 ((wrap64 (s0_2 * 6364136223846793005)) + 1442695040888963407)) / 35184372088832)) 255) + (wrap64 (rd s0_0 s0_1)))) 255, wrap64 (s0_1 + 1), wrap64 ((wrap64 (s0_2 * 6364136223846793005)) + 1442695040888963407))) else (none)) else (some (Go.bits .and .i64 (Go.bits .xor .i64 ((wrap64 ((wrap64 (s0_2 * 6364136223846793005)) + 1442695040888963407)) / 8589934592) ((wrap64 ((wrap64 (s0_2 * 6364136223846793005)) + 1442695040888963407)) / 35184372088832)) 255, s0_1, wrap64 ((wrap64 (s0_2 * 6364136223846793005)) + 1442695040888963407)))
set_option maxHeartbeats 8000000 in
set_option maxRecDepth 100000 in
theorem spec_l01Byte.calls (g : Nat) (s0_0 : List Int) (s0_1 : Int) (s0_2 : Int) (r1 : Int) (r2 : Int) (r3 : Int) (w0 w : World) (hI : IsS86 w0 w g s0_0 s0_1 s0_2) (hB : Below w0.heap.size w0 w) (h : spec_l01Byte.f s0_0 s0_1 s0_2 = some (r1, r2, r3)) :
  Calls Try.prog 88 #[.pointer (some ⟨g, 0, none⟩)] w fun e w' => e = .returned (.int .i64 r1) ∧ IsS86 w0 w' g s0_0 r2 r3 ∧ Below w0.heap.size w0 w' ∧ KeepBut w w' g none := by
 have jA := Z7a hI
 have HK := Z7a (KeepBut.refl w g none)
 have HL := Z7a hB.size
 clear hI
 have HW0 := Z7a hB.size
 have HB := Z7a hB
 clear hB
 have H : (if s0_1 < (s0_0.length : Int) then (if 0 ≤ s0_1 then (some (Go.bits .and .i64 (wrap64 ((Go.bits .and .i64 (Go.bits .xor .i64 ((wrap64 ((wrap64 (s0_2 * 6364136223846793005)) + 1442695040888963407)) / 8589934592) ((wrap64 ((wrap64 (s0_2 * 6364136223846793005)) + 1442695040888963407)) / 35184372088832)) 255) + (wrap64 (rd s0_0 s0_1)))) 255, wrap64 (s0_1 + 1), wrap64 ((wrap64 (s0_2 * 6364136223846793005)) + 1442695040888963407))) else (none)) else (some (Go.bits .and .i64 (Go.bits .xor .i64 ((wrap64 ((wrap64 (s0_2 * 6364136223846793005)) + 1442695040888963407)) / 8589934592) ((wrap64 ((wrap64 (s0_2 * 6364136223846793005)) + 1442695040888963407)) / 35184372088832)) 255, s0_1, wrap64 ((wrap64 (s0_2 * 6364136223846793005)) + 1442695040888963407)))) = some (r1, r2, r3) := h
 clear h
 by_cases c2 : s0_1 < (s0_0.length : Int)
 ·rw [if_pos c2] at H
  have SA : decide (s0_1 < (s0_0.length : Int)) = true := decide_eq_true c2
  clear c2
  by_cases c3 : 0 ≤ s0_1
  ·rw [if_pos c3] at H
   have LA : decide (0 ≤ s0_1) = true := decide_eq_true c3
   clear c3
   simp only [Option.some.injEq, Prod.mk.injEq] at H
   obtain ⟨rfl, rfl, rfl⟩ := H
   obtain ⟨ASz4_0, cSz4_0, HGz4, hgz4, HSz4_0⟩ := jA.out
   have tB := cellS86_0 HGz4
   have uB := cellS86_1 HGz4
   have vB := cellS86_2 HGz4
   have wB := Z7h HGz4 1
   have xB := Z7h HGz4 2
   clear HGz4 hgz4
   have p293 : 0 ≤ (s0_1 : Int) := of_decide_eq_true (by first | (with_reducible assumption) | assumption)
   have q293 : s0_1 < (s0_0.length : Int) := of_decide_eq_true (by first | (with_reducible assumption) | assumption)
   obtain ⟨ad293, yB, hA⟩ := Kd.at_int HSz4_0 s0_1 p293 q293
   cases yB
   have hn293_0 : ad293.block ≠ g := Nat.ne_of_lt (Nat.lt_of_lt_of_le (by have := World.block_lt_of_cell? _ _ hA; first | rwa [add_block] at this | exact this) (IsS86.ge jA.out))
   replace hA := pw_cell_below HB.out hA
   replace hA := (cell_far (p := ⟨g, 2, none⟩) (by first | (rw [add_block]; exact hn293_0) | (show (Addr.add _ _).block ≠ _; rw [add_block]; exact hn293_0) | exact hn293_0) (.int .i64 (wrap64 ((wrap64 (s0_2 * 6364136223846793005)) + 1442695040888963407)))).trans hA
   (try have hy293_0 := fun (n_ : Nat) => (show (((w.drewN n_).setCell ⟨g, 2, none⟩ (.int .i64 (wrap64 ((wrap64 (s0_2 * 6364136223846793005)) + 1442695040888963407))))).cell? _ = some _ from hA))
   clear hn293_0
   replace p293 := eq_true p293
   replace q293 := eq_true q293
   go_enter Try.func88, Try.ntmps88
   go_wp2
   repeat (go_quiet (fail); try go_wp2)
   go_ret
   exact ⟨Z7g, Z7c, Z7d, Z7b⟩
  ·rw [if_neg c3] at H
   exact absurd H (by simp)
 ·rw [if_neg c2] at H
  have SA : decide (s0_1 < (s0_0.length : Int)) = false := decide_eq_false c2
  clear c2
  simp only [Option.some.injEq, Prod.mk.injEq] at H
  obtain ⟨rfl, rfl, rfl⟩ := H
  obtain ⟨ASz5_0, cSz5_0, HGz5, hgz5, HSz5_0⟩ := jA.out
  have zB := cellS86_0 HGz5
  have AB := cellS86_1 HGz5
  have BB := cellS86_2 HGz5
  have CB := Z7h HGz5 1
  have DB := Z7h HGz5 2
  clear HGz5 hgz5
  go_enter Try.func88, Try.ntmps88
  go_wp2
  repeat (go_quiet (fail); try go_wp2)
  go_ret
  exact ⟨Z7g, Z7c, Z7d, Z7b⟩

/-! ### spec_l01Below: function 86 -/
def spec_l01Below.f (s0_0 : List Int) (s0_1 : Int) (s0_2 : Int) (a1 : Int) : Option (Int × Int × Int) := if a1 ≤ 0 then (some (0, s0_1, s0_2)) else (if a1 ≤ 256 then ((spec_l01Byte.f s0_0 s0_1 s0_2).bind fun mA => (if a1 = 0 then (none) else (some (Int.tmod mA.1 a1, mA.2.1, mA.2.2)))) else ((spec_l01Byte.f s0_0 s0_1 s0_2).bind fun nA => ((spec_l01Byte.f s0_0 nA.2.1 nA.2.2).bind fun oA => ((spec_l01Byte.f s0_0 oA.2.1 oA.2.2).bind fun pA => ((spec_l01Byte.f s0_0 pA.2.1 pA.2.2).bind fun qA => (if a1 = 0 then (none) else (some (Int.tmod (wrap64 ((wrap64 ((wrap64 ((wrap64 (nA.1 * 16777216)) + (wrap64 (oA.1 * 65536)))) + (wrap64 (pA.1 * 256)))) + qA.1)) a1, qA.2.1, qA.2.2))))))))
set_option maxHeartbeats 8000000 in
set_option maxRecDepth 100000 in
theorem spec_l01Below.calls (g : Nat) (s0_0 : List Int) (s0_1 : Int) (s0_2 : Int) (a1 : Int) (r1 : Int) (r2 : Int) (r3 : Int) (w0 w : World) (hI : IsS86 w0 w g s0_0 s0_1 s0_2) (hB : Below w0.heap.size w0 w) (h : spec_l01Below.f s0_0 s0_1 s0_2 a1 = some (r1, r2, r3)) :
  Calls Try.prog 86 #[.pointer (some ⟨g, 0, none⟩), .int .i64 a1] w fun e w' => e = .returned (.int .i64 r1) ∧ IsS86 w0 w' g s0_0 r2 r3 ∧ Below w0.heap.size w0 w' ∧ KeepBut w w' g none := by
 have jA := Z7a hI
 have HK := Z7a (KeepBut.refl w g none)
 have HL := Z7a hB.size
 clear hI
 have HW0 := Z7a hB.size
 have HB := Z7a hB
 clear hB
 have H : (if a1 ≤ 0 then (some (0, s0_1, s0_2)) else (if a1 ≤ 256 then ((spec_l01Byte.f s0_0 s0_1 s0_2).bind fun mA => (if a1 = 0 then (none) else (some (Int.tmod mA.1 a1, mA.2.1, mA.2.2)))) else ((spec_l01Byte.f s0_0 s0_1 s0_2).bind fun nA => ((spec_l01Byte.f s0_0 nA.2.1 nA.2.2).bind fun oA => ((spec_l01Byte.f s0_0 oA.2.1 oA.2.2).bind fun pA => ((spec_l01Byte.f s0_0 pA.2.1 pA.2.2).bind fun qA => (if a1 = 0 then (none) else (some (Int.tmod (wrap64 ((wrap64 ((wrap64 ((wrap64 (nA.1 * 16777216)) + (wrap64 (oA.1 * 65536)))) + (wrap64 (pA.1 * 256)))) + qA.1)) a1, qA.2.1, qA.2.2))))))))) = some (r1, r2, r3) := h
 clear h
 by_cases c3 : a1 ≤ 0
 ·rw [if_pos c3] at H
  have LA : decide (a1 ≤ 0) = true := decide_eq_true c3
  clear c3
  simp only [Option.some.injEq, Prod.mk.injEq] at H
  obtain ⟨rfl, rfl, rfl⟩ := H
  go_enter Try.func86, Try.ntmps86
  go_wp2
  go_ret
  exact ⟨Z7g, Z7c, Z7d, Z7b⟩
 ·rw [if_neg c3] at H
  have LA : decide (a1 ≤ 0) = false := decide_eq_false c3
  clear c3
  by_cases c4 : a1 ≤ 256
  ·rw [if_pos c4] at H
   have WA : decide (a1 ≤ 256) = true := decide_eq_true c4
   clear c4
   replace H := Option.bind_eq_some_iff.mp H
   obtain ⟨⟨EB, FB, GB⟩, A50, H⟩ := H
   (try dsimp only at H)
   have A5 := Z7a A50
   clear A50
   by_cases c6 : a1 = 0
   ·rw [if_pos c6] at H
    exact absurd H (by simp)
   ·rw [if_neg c6] at H
    have ZB : (a1 == 0) = false := beq_eq_false_iff_ne.mpr c6
    have aC : (a1 != 0) = true := bne_iff_ne.mpr c6
    simp only [Option.some.injEq, Prod.mk.injEq] at H
    obtain ⟨rfl, rfl, rfl⟩ := H
    go_enter Try.func86, Try.ntmps86
    go_wp2_with (first | ((with_reducible refine gate_callee (f := 88) rfl ?_); refine goesL_ (some 14) rfl rfl Try.func88 (by kernel_rfl) rfl #[.pointer (some ⟨g, 0, none⟩)] rfl Z7e ?_; (with_reducible refine (spec_l01Byte.calls g s0_0 s0_1 s0_2 EB FB GB w0 _ ?side1 ?side2 A5.out).mono ?_); (case side1 => exact Z7c); (case side2 => exact Z7d); rintro e w7 ⟨rfl, hi, hb, hk⟩; refine ⟨_, rfl, ?_⟩; have cA := Z7a (KeepBut.trans Z7b hk (.inl rfl)); have dA := Z7a (hb); have fA := Z7a (hi); clear HK HB jA; have HK := cA; have HB := dA; have jA := fA; clear cA dA fA; (try clear hb); (try clear hb2); (try clear hk); (try clear hi)))
    go_ret
    exact ⟨Z7g, Z7c, Z7d, Z7b⟩
  ·rw [if_neg c4] at H
   have WA : decide (a1 ≤ 256) = false := decide_eq_false c4
   clear c4
   replace H := Option.bind_eq_some_iff.mp H
   obtain ⟨⟨IB, cB, dB⟩, A80, H⟩ := H
   (try dsimp only at H)
   have A8 := Z7a A80
   clear A80
   replace H := Option.bind_eq_some_iff.mp H
   obtain ⟨⟨JB, eB, fB⟩, A90, H⟩ := H
   (try dsimp only at H)
   have A9 := Z7a A90
   clear A90
   replace H := Option.bind_eq_some_iff.mp H
   obtain ⟨⟨KB, gB, iB⟩, A100, H⟩ := H
   (try dsimp only at H)
   have A10 := Z7a A100
   clear A100
   replace H := Option.bind_eq_some_iff.mp H
   obtain ⟨⟨LB, MB, NB⟩, A110, H⟩ := H
   (try dsimp only at H)
   have A11 := Z7a A110
   clear A110
   by_cases c12 : a1 = 0
   ·rw [if_pos c12] at H
    exact absurd H (by simp)
   ·rw [if_neg c12] at H
    have XB : (a1 == 0) = false := beq_eq_false_iff_ne.mpr c12
    have YB : (a1 != 0) = true := bne_iff_ne.mpr c12
    simp only [Option.some.injEq, Prod.mk.injEq] at H
    obtain ⟨rfl, rfl, rfl⟩ := H
    go_enter Try.func86, Try.ntmps86
    go_wp2_with (first | ((with_reducible refine gate_callee (f := 88) rfl ?_); refine goesL_ (some 18) rfl rfl Try.func88 (by kernel_rfl) rfl #[.pointer (some ⟨g, 0, none⟩)] rfl Z7e ?_; (with_reducible refine (spec_l01Byte.calls g s0_0 s0_1 s0_2 IB cB dB w0 _ ?side1 ?side2 A8.out).mono ?_); (case side1 => exact Z7c); (case side2 => exact Z7d); rintro e eC ⟨rfl, hi, hb, hk⟩; refine ⟨_, rfl, ?_⟩; have cA := Z7a (KeepBut.trans Z7b hk (.inl rfl)); have dA := Z7a (hb); have fA := Z7a (hi); clear HK HB jA; have HK := cA; have HB := dA; have jA := fA; clear cA dA fA; (try clear hb); (try clear hb2); (try clear hk); (try clear hi)) | ((with_reducible refine gate_callee (f := 88) rfl ?_); refine goesL_ (some 20) rfl rfl Try.func88 (by kernel_rfl) rfl #[.pointer (some ⟨g, 0, none⟩)] rfl Z7e ?_; (with_reducible refine (spec_l01Byte.calls g s0_0 cB dB JB eB fB w0 _ ?side1 ?side2 A9.out).mono ?_); (case side1 => exact Z7c); (case side2 => exact Z7d); rintro e fC ⟨rfl, hi, hb, hk⟩; refine ⟨_, rfl, ?_⟩; have cA := Z7a (KeepBut.trans Z7b hk (.inl rfl)); have dA := Z7a (hb); have fA := Z7a (hi); clear HK HB jA; have HK := cA; have HB := dA; have jA := fA; clear cA dA fA; (try clear hb); (try clear hb2); (try clear hk); (try clear hi)) | ((with_reducible refine gate_callee (f := 88) rfl ?_); refine goesL_ (some 22) rfl rfl Try.func88 (by kernel_rfl) rfl #[.pointer (some ⟨g, 0, none⟩)] rfl Z7e ?_; (with_reducible refine (spec_l01Byte.calls g s0_0 eB fB KB gB iB w0 _ ?side1 ?side2 A10.out).mono ?_); (case side1 => exact Z7c); (case side2 => exact Z7d); rintro e gC ⟨rfl, hi, hb, hk⟩; refine ⟨_, rfl, ?_⟩; have cA := Z7a (KeepBut.trans Z7b hk (.inl rfl)); have dA := Z7a (hb); have fA := Z7a (hi); clear HK HB jA; have HK := cA; have HB := dA; have jA := fA; clear cA dA fA; (try clear hb); (try clear hb2); (try clear hk); (try clear hi)) | ((with_reducible refine gate_callee (f := 88) rfl ?_); refine goesL_ (some 24) rfl rfl Try.func88 (by kernel_rfl) rfl #[.pointer (some ⟨g, 0, none⟩)] rfl Z7e ?_; (with_reducible refine (spec_l01Byte.calls g s0_0 gB iB LB MB NB w0 _ ?side1 ?side2 A11.out).mono ?_); (case side1 => exact Z7c); (case side2 => exact Z7d); rintro e iC ⟨rfl, hi, hb, hk⟩; refine ⟨_, rfl, ?_⟩; have cA := Z7a (KeepBut.trans Z7b hk (.inl rfl)); have dA := Z7a (hb); have fA := Z7a (hi); clear HK HB jA; have HK := cA; have HB := dA; have jA := fA; clear cA dA fA; (try clear hb); (try clear hb2); (try clear hk); (try clear hi)))
    go_ret
    exact ⟨Z7g, Z7c, Z7d, Z7b⟩

/-! ### spec_l07Picks: function 76 -/
def spec_l07Picks.l0 : Nat → List Int → Int → List Int → Int → Int → Option (List Int × Int × Int)
 | 0, _, _, _, _, _ => none
 | k + 1, x5, x6, PA, QA, RA => if x6 > 0 then ((spec_l01Below.f PA QA RA 12).bind fun DA => (if x5.length < 17592186044416 then (spec_l07Picks.l0 k (x5 ++ [DA.1]) (wrap64 (x6 - 1)) PA DA.2.1 DA.2.2) else (none))) else (some (x5, QA, RA))
def spec_l07Picks.f (k : Nat) (s0_0 : List Int) (s0_1 : Int) (s0_2 : Int) (a1 : Int) : Option (List Int × Int × Int) := (spec_l01Below.f s0_0 s0_1 s0_2 (wrap64 (a1 + 1))).bind fun gA => (spec_l07Picks.l0 k (([] : List Int)) gA.1 s0_0 gA.2.1 gA.2.2)
theorem spec_l07Picks.mono_l : ∀ k, (∀ y0 y1 y2 y3 y4, LeO (spec_l07Picks.l0 k y0 y1 y2 y3 y4) (spec_l07Picks.l0 (k + 1) y0 y1 y2 y3 y4))
 | 0 => fun _ _ _ _ _ r h => by simp [spec_l07Picks.l0] at h
 | k + 1 => by
  have ih0 := spec_l07Picks.mono_l k
  ·intro y0 y1 y2 y3 y4
   unfold spec_l07Picks.l0
   repeat' first
   | (with_reducible exact ih0 _ _ _ _ _)
   | (with_reducible exact LeO.refl _)
   | (with_reducible exact LeO.none _)
   | (with_reducible refine LeO.ite ?_ ?_)
   | (with_reducible refine LeO.bind ?_ (fun _ => ?_))
   | exact ih0 _ _ _ _ _
   | exact LeO.none _
   | refine LeO.ite ?_ ?_
   | refine LeO.bind ?_ (fun _ => ?_)
theorem spec_l07Picks.mono : ∀ a0 a1 a2 a3 k, LeO (spec_l07Picks.f k a0 a1 a2 a3) (spec_l07Picks.f (k + 1) a0 a1 a2 a3) := by
 intro a0 a1 a2 a3 k
 have ih0 := spec_l07Picks.mono_l k
 unfold spec_l07Picks.f
 repeat' first
   | (with_reducible exact ih0 _ _ _ _ _)
   | (with_reducible exact LeO.refl _)
   | (with_reducible exact LeO.none _)
   | (with_reducible refine LeO.ite ?_ ?_)
   | (with_reducible refine LeO.bind ?_ (fun _ => ?_))
   | exact ih0 _ _ _ _ _
   | exact LeO.none _
   | refine LeO.ite ?_ ?_
   | refine LeO.bind ?_ (fun _ => ?_)
set_option maxHeartbeats 8000000 in
set_option maxRecDepth 100000 in
theorem spec_l07Picks.calls (k : Nat) (g : Nat) (s0_0 : List Int) (s0_1 : Int) (s0_2 : Int) (a1 : Int) (r1 : List Int) (r2 : Int) (r3 : Int) (w0 w : World) (hI : IsS86 w0 w g s0_0 s0_1 s0_2) (hB : Below w0.heap.size w0 w) (h : spec_l07Picks.f k s0_0 s0_1 s0_2 a1 = some (r1, r2, r3)) :
  Calls Try.prog 76 #[.pointer (some ⟨g, 0, none⟩), .int .i64 a1] w fun e w' => ∃ v0_ : Value, e = .returned (v0_) ∧ Kd.R (Kd.int .i64) 3 w' w.heap.size (fun _ => True) v0_ r1 ∧ IsS86 w0 w' g s0_0 r2 r3 ∧ Below w0.heap.size w0 w' ∧ KeepBut w w' g none := by
 have jA := Z7a hI
 have HK := Z7a (KeepBut.refl w g none)
 have HL := Z7a hB.size
 clear hI
 have HW0 := Z7a hB.size
 have HB := Z7a hB
 clear hB
 have H : ((spec_l01Below.f s0_0 s0_1 s0_2 (wrap64 (a1 + 1))).bind fun gA => (spec_l07Picks.l0 k (([] : List Int)) gA.1 s0_0 gA.2.1 gA.2.2)) = some (r1, r2, r3) := h
 clear h
 obtain ⟨y309, hy309⟩ : ∃ y_ : List Int, y_ = (([] : List Int)) := ⟨_, rfl⟩
 replace H : ((spec_l01Below.f s0_0 s0_1 s0_2 (wrap64 (a1 + 1))).bind fun gA => (spec_l07Picks.l0 k y309 gA.1 s0_0 gA.2.1 gA.2.2)) = some (r1, r2, r3) := by first | (rw [hy309]; with_reducible exact H) | (have H2_ := (Option.bind_some _ _).symm.trans H; rw [hy309]; with_reducible exact H2_) | (have H2_ := (Option.bind_some _ _).symm.trans H; with_reducible exact H2_) | with_reducible exact H | (rw [hy309]; exact H) | exact H
 have Ny309 := Z7a hy309
 clear hy309
 replace H := Option.bind_eq_some_iff.mp H
 obtain ⟨⟨jB, kB, lB⟩, A30, H⟩ := H
 (try dsimp only at H)
 have A3 := Z7a A30
 clear A30
 have H' := Z7a H
 clear H
 go_enter Try.func76, Try.ntmps76
 go_wp2_with (first | ((with_reducible refine gate_dst (N := 7) rfl ?_); refine Kd.R_lit (Kd.int .i64) _ 3 ?hg (N := 7) ?hd (xs := ([] : List Int)) (inner := []) (ok := fun _ => True) (okp := fun _ => True) ?hr ?hp (fun _ hk => hk) trivial (Below.refl _ _) (Nat.le_refl _) (by simp) ?_; (case hd => rfl); (case hg => rfl); (case hr => first | (go_simp; done) | (go_simp; rfl)); (case hp => exact (Reps.none _ _)); intro bC w4 ho5 hb hg_ hnew_; clear hg_ hnew_; (first | rw [← Ny309.out] at ho5 | (simp only [Int.reduceToNat] at ho5; rw [← Ny309.out] at ho5)); have cA := Z7a (Kd.R_lower ho5 (keep_size (w := w) (g := g) (row := none) Z7b)); have dA := Z7a (IsS86.below Z7c hb); have fA := Z7a (KeepBut.trans Z7b (KeepBut.of_below hb g none) (.inl rfl)); have uA := Z7a (below_step Z7d hb); clear jA HK HB; have zA := cA; have jA := dA; have HK := fA; have HB := uA; clear cA dA fA uA; clear hb ho5) | ((with_reducible refine gate_callee (f := 86) rfl ?_); refine goesL_ (some 11) rfl rfl Try.func86 (by kernel_rfl) rfl #[.pointer (some ⟨g, 0, none⟩), .int .i64 (wrap64 (a1 + 1))] rfl Z7e ?_; (with_reducible refine (spec_l01Below.calls g s0_0 s0_1 s0_2 (wrap64 (a1 + 1)) jB kB lB w0 _ ?side1 ?side2 A3.out).mono ?_); (case side1 => exact Z7c); (case side2 => exact Z7d); rintro e w6 ⟨rfl, hi, hb, hk⟩; refine ⟨_, rfl, ?_⟩; have cA := Z7a (Kd.R_mono (Kd.R_keep (IsS86.apart (show IsS86 w0 _ g s0_0 s0_1 s0_2 from by repeat (first | (with_reducible first | exact jA.out | apply IsS86.alloc | apply IsS86.drewN | apply IsS86.drew | apply IsS86.set_1 | apply IsS86.set_2) | exact jA.out)) (by (with_reducible repeat (first | apply Kd.R_alloc | apply Kd.R_drewN | apply Kd.R_drew)); exact zA.out) (by decide)) hk (fun _ h => h.2)) (fun _ h => h.1)); have dA := Z7a (KeepBut.trans Z7b hk (.inl rfl)); have fA := Z7a (hb); have uA := Z7a (hi); clear zA HK HB jA; have zA := cA; have HK := dA; have HB := fA; have jA := uA; clear cA dA fA uA; (try clear hb); (try clear hb2); (try clear hk); (try clear hi)))
 go_loopg [5, 6] k (fun kq v5 v6 w' => ∃ (CA : List Int) (vA : Int) (kA : Int) (lA : Int), v6 = .int .i64 vA ∧ Aside0 (spec_l07Picks.l0 kq CA vA s0_0 kA lA = some (r1, r2, r3)) ∧ Aside0 (kq ≤ k) ∧ Aside0 (Kd.R (Kd.int .i64) 3 w' w.heap.size (fun _ => True) v5 CA) ∧ Aside0 (IsS86 w0 w' g s0_0 kA lA) ∧ Aside0 (KeepBut w w' g none) ∧ Aside0 (Below w0.heap.size w0 w'))
 case atStart => exact ⟨(y309), (jB), (kB), (lB), Z7f, H', ⟨Nat.le_refl _⟩, ⟨by (with_reducible repeat (first | apply Kd.R_alloc | apply Kd.R_drewN | apply Kd.R_drew)); exact zA.out⟩, ⟨Z7c⟩, ⟨Z7b⟩, ⟨Z7d⟩⟩
 case round =>
  clear H'
  (try clear p2); (try clear p6)
  obtain ⟨CA, vA, kA, lA, rfl, HA, HK1, BA, jA, HK, HB⟩ := hrel
  cases gk with
  | zero => exact absurd HA.out (by simp [spec_l07Picks.l0])
  | succ k1 =>
   have H := HA.out
   clear HA
   simp only [spec_l07Picks.l0] at H
   by_cases c7 : vA > 0
   ·rw [if_pos c7] at H
    have OB : decide (0 < vA) = true := decide_eq_true c7
    clear c7
    replace H := Option.bind_eq_some_iff.mp H
    obtain ⟨⟨MA, TA, UA⟩, A80, H⟩ := H
    (try dsimp only at H)
    have A8 := Z7a A80
    clear A80
    by_cases c9 : CA.length < 17592186044416
    ·rw [if_pos c9] at H
     have LMc9 := Z7a c9
     clear c9
     obtain ⟨y318, hy318⟩ : ∃ y_ : List Int, y_ = (CA ++ [MA]) := ⟨_, rfl⟩
     replace H : (spec_l07Picks.l0 k1 y318 (wrap64 (vA - 1)) s0_0 TA UA) = some (r1, r2, r3) := by first | (rw [hy318]; with_reducible exact H) | (have H2_ := (Option.bind_some _ _).symm.trans H; rw [hy318]; with_reducible exact H2_) | (have H2_ := (Option.bind_some _ _).symm.trans H; with_reducible exact H2_) | with_reducible exact H | (rw [hy318]; exact H) | exact H
     have Ny318 := Z7a hy318
     clear hy318
     have H' := Z7a H
     clear H
     go_wp2_with (first | ((with_reducible refine gate_callee (f := 86) rfl ?_); refine goesL_ (some 18) rfl rfl Try.func86 (by kernel_rfl) rfl #[.pointer (some ⟨g, 0, none⟩), .int .i64 12] rfl Z7e ?_; (with_reducible refine (spec_l01Below.calls g s0_0 kA lA 12 MA TA UA w0 _ ?side1 ?side2 A8.out).mono ?_); (case side1 => exact Z7c); (case side2 => exact Z7d); rintro e jC ⟨rfl, hi, hb, hk⟩; refine ⟨_, rfl, ?_⟩; have cA := Z7a (Kd.R_mono (Kd.R_keep (IsS86.apart (show IsS86 w0 _ g s0_0 kA lA from by repeat (first | (with_reducible first | exact jA.out | apply IsS86.alloc | apply IsS86.drewN | apply IsS86.drew | apply IsS86.set_1 | apply IsS86.set_2) | exact jA.out)) Z7m (by decide)) hk (fun _ h => h.2)) (fun _ h => h.1)); have dA := Z7a (KeepBut.trans Z7b hk (.inl rfl)); have fA := Z7a (hb); have uA := Z7a (hi); clear BA HK HB jA; have BA := cA; have HK := dA; have HB := fA; have jA := uA; clear cA dA fA uA; (try clear hb); (try clear hb2); (try clear hk); (try clear hi)) | ((with_reducible refine gate_builtin (b := .append) (xs := #[.tmp 16, .tmp 19]) rfl ?_); at_builtin; refine Kd.R_append (Kd.int .i64) w.heap.size rfl (.tmp 16) (.tmp 19) 27 3 (.int .i64 0) 8 rfl Try.underlying27 info3 rfl (by decide) (by omega) u5 CA MA [.int .i64 MA] (fun _ => True) (fun _ => False) rfl rfl ?aP (fun _ hk => hk.elim) ?aF ?aO (Below.refl _ _) ?aS ?aL ?_; (case aP => exact rfl); (case aF => exact (fun _ _ => trivial)); (case aO => exact Z7m); (case aS => exact (keep_size (w := w) (g := g) (row := none) Z7b)); (case aL => have := LMc9.out; omega); intro cC kC ho hb hg hat; rw [← Ny318.out] at ho; have cA := Z7a (IsS86.grown Z7c hg (IsS86.own_ne jA.out BA.out (by decide))); have dA := Z7a (below_weaken Z7d HL.out hb); have fA := Z7a (KeepBut.trans Z7b (KeepBut.of_grown hg g) (Kd.R_base2 BA.out)); have uA := Z7a (ho); clear jA HB HK BA; have jA := cA; have HB := dA; have HK := fA; have mB := uA; clear cA dA fA uA; clear ho hb hg hat))
     go_roundg k1
     case measure => have := HK1.out; omega
     case rel => exact ⟨(y318), (wrap64 (vA - 1)), (TA), (UA), Z7f, H', ⟨by have := HK1.out; omega⟩, ⟨by (with_reducible repeat (first | apply Kd.R_alloc | apply Kd.R_drewN | apply Kd.R_drew)); exact mB.out⟩, ⟨Z7c⟩, ⟨Z7b⟩, ⟨Z7d⟩⟩
    ·rw [if_neg c9] at H
     exact absurd H (by simp)
   ·rw [if_neg c7] at H
    have OB : decide (0 < vA) = false := decide_eq_false c7
    clear c7
    simp only [Option.some.injEq, Prod.mk.injEq] at H
    obtain ⟨rfl, rfl, rfl⟩ := H
    go_wp2
    go_ret
    exact ⟨_, Z7g, Z7m, Z7c, Z7d, Z7b⟩

/-! ### spec_MakePicks: function 38 -/
def spec_MakePicks.f (k : Nat) (l0 : List Int) (a1 : Int) : Option (List Int) := (spec_l01New.f k l0).bind fun rA => ((spec_l07Picks.f k rA.1 rA.2.1 (wrap64 (rA.2.2 + 222)) a1).bind fun EA => (some EA.1))
theorem spec_MakePicks.mono : ∀ a0 a1 k, LeO (spec_MakePicks.f k a0 a1) (spec_MakePicks.f (k + 1) a0 a1) := by
 intro a0 a1 k
 unfold spec_MakePicks.f
 repeat' first
   | (with_reducible exact spec_l01New.mono _ _)
   | (with_reducible exact spec_l07Picks.mono _ _ _ _ _)
   | (with_reducible exact LeO.refl _)
   | (with_reducible exact LeO.none _)
   | (with_reducible refine LeO.ite ?_ ?_)
   | (with_reducible refine LeO.bind ?_ (fun _ => ?_))
   | exact spec_l01New.mono _ _
   | exact spec_l07Picks.mono _ _ _ _ _
   | exact LeO.none _
   | refine LeO.ite ?_ ?_
   | refine LeO.bind ?_ (fun _ => ?_)
set_option maxHeartbeats 8000000 in
set_option maxRecDepth 100000 in
theorem spec_MakePicks.calls (k : Nat) (A0 : Option Addr) (c0 : Nat) (l0 : List Int) (a1 : Int) (r : List Int) (w : World) (hr0 : Kd.C (Kd.int .u8) w A0 l0.length l0) (hc0 : l0.length ≤ c0) (h : spec_MakePicks.f k l0 a1 = some r) :
  Calls Try.prog 38 #[.slice A0 l0.length c0, .int .i64 a1] w fun e w' => ∃ v0_ : Value, e = .returned (v0_) ∧ Kd.R (Kd.int .i64) 3 w' w.heap.size (fun _ => True) v0_ r ∧ Below w.heap.size w w' := by
 have HR0 := Z7a hr0
 have HC0 := Z7a hc0
 clear hr0 hc0
 have HB := Z7a (Below.refl w.heap.size w)
 have H : ((spec_l01New.f k l0).bind fun rA => ((spec_l07Picks.f k rA.1 rA.2.1 (wrap64 (rA.2.2 + 222)) a1).bind fun EA => (some EA.1))) = some r := h
 clear h
 replace H := Option.bind_eq_some_iff.mp H
 obtain ⟨⟨nB, oB, pB⟩, A30, H⟩ := H
 (try dsimp only at H)
 have A3 := Z7a A30
 clear A30
 replace H := Option.bind_eq_some_iff.mp H
 obtain ⟨⟨PB, QB, RB⟩, A40, H⟩ := H
 (try dsimp only at H)
 have A4 := Z7a A40
 clear A40
 obtain rfl := Option.some.inj H
 go_enter Try.func38, Try.ntmps38
 go_wp2_with (first | ((with_reducible refine gate_callee (f := 75) rfl ?_); refine goesL_ (some 8) rfl rfl Try.func75 (by kernel_rfl) rfl #[.slice A0 l0.length c0] rfl Z7e ?_; (with_reducible refine (spec_l01New.calls k _ _ l0 nB oB pB w _ ?side1 ?side2 ?side3 A3.out).mono ?_); (case side1 => exact Z7j); (case side2 => exact HR0.out); (case side3 => exact HC0.out); rintro e w5 ⟨g324, rfl, hi, hb, hb2⟩; refine ⟨_, rfl, ?_⟩; have cA := Z7a (hb); have dA := Z7a (hi); clear HB; have HB := cA; have sA := dA; clear cA dA; (try clear hb); (try clear hb2); (try clear hk); (try clear hi); obtain ⟨ASz6_0, cSz6_0, HGz6, hgz6, HSz6_0⟩ := sA.out; have SB := cellS86_0 HGz6; have TB := cellS86_1 HGz6; have UB := cellS86_2 HGz6; have VB := Z7h HGz6 1; have WB := Z7h HGz6 2; clear HGz6 hgz6) | ((with_reducible refine gate_callee (f := 76) rfl ?_); refine goesL_ (some 19) rfl rfl Try.func76 (by kernel_rfl) rfl #[.pointer (some ⟨g324, 0, none⟩), .int .i64 a1] rfl Z7e ?_; (with_reducible refine (spec_l07Picks.calls k g324 nB oB (wrap64 (pB + 222)) a1 PB QB RB w _ ?side1 ?side2 A4.out).mono ?_); (case side1 => repeat (first | (with_reducible first | exact sA.out | apply IsS86.alloc | apply IsS86.drewN | apply IsS86.drew | apply IsS86.set_1 | apply IsS86.set_2) | exact sA.out)); (case side2 => exact Z7l); rintro e w7 ⟨dC, rfl, ho0, hi, hb, hk⟩; refine ⟨_, rfl, ?_⟩; have cA := Z7a (Kd.R_lower ho0 (below_size Z7l)); have dA := Z7a (hb); have fA := Z7a (hi); clear HB sA; have qB := cA; have HB := dA; have sA := fA; clear cA dA fA; (try clear hb); (try clear hb2); (try clear hk); (try clear hi); (try clear ho0)))
 go_ret
 exact ⟨_, Z7g, by (with_reducible repeat (first | apply Kd.R_alloc | apply Kd.R_drewN | apply Kd.R_drew)); exact qB.out, Z7l⟩

/-! ### laws_less: function 39 -/
def laws_less.f (a0 : Bool) : Option (Int) := if a0 = true then (some 1) else (some 0)
set_option maxHeartbeats 8000000 in
set_option maxRecDepth 100000 in
theorem laws_less.calls (a0 : Bool) (r : Int) (w : World) (h : laws_less.f a0 = some r) :
  Calls Try.prog 39 #[.bool a0] w fun e w' => e = .returned (.int .i64 r) ∧ Drawn0 w w' := by
 have H : (if a0 = true then (some 1) else (some 0)) = some r := h
 clear h
 by_cases c2 : a0 = true
 ·subst c2
  rw [if_pos rfl] at H
  obtain rfl := Option.some.inj H
  go_enter Try.func39, Try.ntmps39
  go_wp2
  go_ret
  exact ⟨Z7f, by repeat (first | exact Drawn0.refl _ | apply Drawn0.step)⟩
 ·replace c2 := Bool.eq_false_iff.mpr c2
  subst c2
  rw [if_neg (show ¬ (false = true) by decide)] at H
  obtain rfl := Option.some.inj H
  go_enter Try.func39, Try.ntmps39
  go_wp2
  go_ret
  exact ⟨Z7f, by repeat (first | exact Drawn0.refl _ | apply Drawn0.step)⟩

end Go.Proofs.Ytjikobdblohphaa.PFnListOne
