/- The contract of slices.Insert at one value, over the words of this seat's claims: a row of the call's own with the value put in. -/
import Derived.Test.YtjikobdblohphaaPFnListOnex0
import Derived.Shelf.Spec.SlicesInsertGrow
import Derived.Shelf.SlicesE.DeleteFunc
import Derived.Lib.RowBridge
namespace Go.Proofs.Ytjikobdblohphaa.PFnListOne
open Go Go.Proofs Go.Shelf Go.RowKit Go.Proofs.YtjikobdblohphaaW.PrintWords Go.Proofs.YtjikobdblohphaaW.PrintLast Go.Proofs.YtjikobdblohphaaW.PrintMore
def insRen : Ren := ⟨fun n => if n = 21 then 72 else if n = 27 then 83 else if n = 28 then 84 else if n = 35 then 87 else 89, fun n => if n = 22 then 27 else n, fun n => n⟩
theorem insLays : Lays2.n21 Try.prog insRen where
  mixed := by kernel_rfl
  f21 := by kernel_rfl
  f27 := by kernel_rfl
  f28 := by kernel_rfl
  f35 := by kernel_rfl
  f39 := by kernel_rfl
  t0 := Try.underlying0
  a0 := Try.isAgg0
  z0 := Try.sizeOf0
  v0 := Try.zeroValue0
  t3 := Try.underlying3
  a3 := Try.isAgg3
  z3 := Try.sizeOf3
  v3 := Try.zeroValue3
  t4 := Try.underlying4
  a4 := Try.isAgg4
  z4 := Try.sizeOf4
  v4 := Try.zeroValue4
  t22 := Try.underlying27
  a22 := Try.isAgg27
  z22 := Try.sizeOf27
  v22 := Try.zeroValue27
  i3 := by kernel_rfl

theorem own_fin {w : World} {base g n cap : Nat} {cur : Array Value} {ys : List Int} (hh : w.heap[g]? = some (.cells cur 3 (0, 0))) (hb : base ≤ g) (hn : ys.length = n) (hc : n ≤ cap) (hm : cap ≤ maxLen) (hs : cur.size = cap) (ht : cur.toList.take n = encs (Value.int .i64) ys) :
    Kd.R (Kd.int .i64) 3 w base (fun _ => True) (.slice (some ⟨g, 0, none⟩) n cap) ys := by
  subst hn
  refine Kd.R_of_own ⟨by simp [encs], .inr ⟨g, cap, cur, rfl, hb, hh, hc, hm, by omega, by simpa using ht⟩⟩ (fun _ _ => trivial)

theorem below_cells {w0 w : World} {g : Nat} (vs : List Value) (o : Nat) (hb : Below w0.heap.size w0 w) (hg : w0.heap.size ≤ g) : Below w0.heap.size w0 (w.setCells g o vs) := by
  induction vs generalizing o w with
  | nil => exact hb
  | cons v r ih => exact ih (o + 1) (below_set hb hg)

theorem alloc_at_ (w : World) (o : Obj) : (w.alloc o).heap[w.heap.size]? = some o := by
  show (w.heap.push o)[w.heap.size]? = some o
  simp
theorem zc_size (n : Nat) : (Builtin.zeroCells (Value.int .i64 0).cells n).size = n := by simp [Builtin.zeroCells, Value.cells]
theorem shift_list (l : List Value) (xs : List Int) (i : Nat) (x : Int) (ht : l.take xs.length = encs (Value.int .i64) xs) (hi : i < xs.length) (hl : xs.length + 1 ≤ l.length) :
    (List.take (0 + i) (List.take (0 + (i + 1)) l ++ (encs (Value.int .i64) xs).drop i ++ List.drop (0 + (i + 1) + ((encs (Value.int .i64) xs).drop i).length) l) ++ [Value.int .i64 x] ++ List.drop (0 + i + [Value.int .i64 x].length) (List.take (0 + (i + 1)) l ++ (encs (Value.int .i64) xs).drop i ++ List.drop (0 + (i + 1) + ((encs (Value.int .i64) xs).drop i).length) l)).take (xs.length + 1) = encs (Value.int .i64) (xs.take i ++ [x] ++ xs.drop i) := by
  have hti : l.take i = (encs (Value.int .i64) xs).take i := by rw [← ht, List.take_take, Nat.min_eq_left (by omega)]
  have h1 : (List.take (i + 1) l).length = i + 1 := by rw [List.length_take]; omega
  have h2 : List.take i (List.take (i + 1) l) = (encs (Value.int .i64) xs).take i := by rw [List.take_take, Nat.min_eq_left (by omega), hti]
  simp only [Nat.zero_add, List.length_singleton]
  generalize List.drop (i + 1 + ((encs (Value.int .i64) xs).drop i).length) l = C
  have hA : List.take i (List.take (i + 1) l ++ (encs (Value.int .i64) xs).drop i ++ C) = (encs (Value.int .i64) xs).take i := by rw [List.append_assoc, List.take_append_of_le_length (by omega), h2]
  have hB : List.drop (i + 1) (List.take (i + 1) l ++ (encs (Value.int .i64) xs).drop i ++ C) = (encs (Value.int .i64) xs).drop i ++ C := by rw [List.append_assoc, List.drop_append_of_le_length (by omega), List.drop_eq_nil_of_le (by omega), List.nil_append]
  rw [hA, hB]
  have h3 : ((encs (Value.int .i64) xs).take i ++ [Value.int .i64 x] ++ (encs (Value.int .i64) xs).drop i).length = xs.length + 1 := by simp [encs]; omega
  rw [← List.append_assoc, List.take_append_of_le_length (by omega), List.take_of_length_le (by omega)]
  simp [encs, List.map_take, List.map_drop]

theorem new_fin {w0 : World} (w : World) (c : Nat) (ys : List Int) (n : Nat) (hn : ys.length = n) (HB : Below w0.heap.size w0 w) (hm : n ≤ maxLen) :
    Kd.R (Kd.int .i64) 3 (w.drew.alloc (.cells ((encs (Value.int .i64) ys).toArray ++ Builtin.zeroCells (Value.int .i64 0).cells (grownCap w n c 3 - n)) 3)) w0.heap.size (fun _ => True) (.slice (some ⟨w.heap.size, 0, none⟩) n (grownCap w n c 3)) ys := by
  have hG := grownCap_ge w n c 3
  have hM := grownCap_le_maxLen w n c 3 hm
  generalize grownCap w n c 3 = G at hG hM ⊢
  have he : (encs (Value.int .i64) ys).length = n := by simp [encs, hn]
  refine own_fin (alloc_at_ w.drew _) (below_size HB) hn hG hM ?_ ?_
  · rw [Array.size_append, zc_size, List.size_toArray]
    omega
  · rw [Array.toList_append, List.take_append_of_le_length (by rw [List.toList_toArray]; omega), List.toList_toArray, List.take_of_length_le (by omega)]

theorem enc_get (xs : List Int) (j : Nat) (v : Value) (h : (encs (Value.int .i64) xs)[j]? = some v) : ∃ x, xs[j]? = some x ∧ v = .int .i64 x := by
  simp only [encs, List.getElem?_map, Option.map_eq_some_iff] at h
  obtain ⟨x, h1, h2⟩ := h
  exact ⟨x, h1, h2.symm⟩

theorem ins_calls (w0 w : World) (A : Option Addr) (c : Nat) (xs : List Int) (i : Nat) (x : Int) (vb vc base2 : Nat) (okv : Nat → Prop) (HB : Below w0.heap.size w0 w) (HO : Kd.R (Kd.int .i64) 3 w w0.heap.size (fun _ => True) (.slice A xs.length c) xs)
    (HV : Kd.R (Kd.int .i64) 3 w base2 okv (.slice (some ⟨vb, 0, none⟩) 1 vc) [x]) (hap : ∀ k, (Value.slice A xs.length c).ownBlock = some k → k ≠ vb) (hi : i ≤ xs.length) (hbig : xs.length < 17592186044415) :
    Calls Try.prog 72 #[.slice A xs.length c, .int .i64 i, .slice (some ⟨vb, 0, none⟩) 1 vc] w fun e w' => ∃ v1, e = .returned v1 ∧ Kd.R (Kd.int .i64) 3 w' w0.heap.size (fun _ => True) v1 (xs.take i ++ [x] ++ xs.drop i) ∧ Below w0.heap.size w0 w' := by
  have hcx := (Kd.R_cell (enc := Value.int .i64) (h1 := fun _ => rfl) (0 : Int) (xs := [x]) HV 0 (by decide) (by simp)).1
  have hvs : ∀ j v, ([Value.int .i64 x])[j]? = some v → w.cell? ⟨vb, 0 + j, none⟩ = some v := by
    intro j v hj
    cases j with
    | zero => simp at hj; subst hj; simpa [rdOf] using hcx
    | succ j => simp at hj
  obtain ⟨g', cap', hv', _, hvlt, vcells, hvb⟩ := Kd.R_form HV (by simp)
  injection hv' with hv'
  injection hv' with hv'
  injection hv' with hv'
  subst hv'
  have hv1 : ∀ v ∈ ([Value.int .i64 x]), v.oneCell' = true := by intro v hv; simp at hv; subst hv; rfl
  have hL := insLays
  have hle : ((xs.take i ++ [x] ++ xs.drop i).length) = xs.length + 1 := by simp; omega
  have hown := Kd.own_of_R (enc := Value.int .i64) (h1 := fun _ => rfl) HO
  obtain ⟨_, hnil | ⟨g, cap, cur, hv, hb, hh, hnc, hcm, hcs, ht⟩⟩ := hown
  · obtain ⟨he, h0⟩ := hnil
    injection he with e1 e2 e3
    subst e1 e3
    have hx : xs = [] := List.length_eq_zero_iff.1 h0
    subst hx
    have hi0 : i = 0 := by simpa using hi
    subst hi0
    refine (Any2.slices_Insert_int_end_grow hL none 0 0 vb 0 1 vc [] [.int .i64 x] w (by decide) (by decide) (by decide) (by decide) rfl rfl (fun _ => rfl) (fun a h => by cases h) hvs hv1).mono ?_
    rintro e w' ⟨rfl, rfl⟩
    have hN := new_fin (w0 := w0) w 0 [x] 1 rfl HB (by decide)
    exact ⟨_, rfl, hN, below_alloc (below_drew1 HB) _⟩
  · injection hv with e1 e2 e3
    subst e1 e3
    have hgv : g ≠ vb := hap g rfl
    have hcl : (encs (Value.int .i64) xs).length = xs.length := by simp [encs]
    have ht' : cur.toList.take xs.length = encs (Value.int .i64) xs := by simpa using ht
    have hcs' : cur.size = c := by omega
    have hcells : ∀ j v, (encs (Value.int .i64) xs)[j]? = some v → w.cell? ⟨g, 0 + j, none⟩ = some v := by
      intro j v hj
      rw [← ht', List.getElem?_take] at hj
      split at hj
      · rw [Nat.zero_add, blk_cell hh, ← Array.getElem?_toList]; exact hj
      · cases hj
    have h1c : ∀ v ∈ encs (Value.int .i64) xs, v.oneCell' = true := by
      intro v hv
      simp only [encs, List.mem_map] at hv
      obtain ⟨y, _, rfl⟩ := hv
      rfl
    have hsp : ∀ j, j < c → (w.cell? ⟨g, 0 + j, none⟩).isSome = true := by
      intro j hj
      rw [Nat.zero_add, blk_cell hh, Array.getElem?_eq_getElem (by omega)]
      rfl
    have hfz : ∀ j, w.frozen? ⟨g, j, none⟩ = false := fun j => blk_frozen hh j
    have hmx : c ≤ 9223372036854775807 := by unfold maxLen at hcm; omega
    have hsh : w.shape? g = some (3, cur.size) := by simp [World.shape?, hh]
    have hshv : w.shape? vb = some (3, vcells.size) := by simp [World.shape?, hvb]
    by_cases hroom : xs.length + 1 ≤ c
    · by_cases hin : i < xs.length
      · refine (Any2.slices_Insert_int_shift hL g 0 xs.length c i vb 0 1 vc (encs (Value.int .i64) xs) [.int .i64 x] w hin (by decide) hroom hmx (Ne.symm hgv) hcl rfl hcells (fun j hj => hsp j (by omega)) (fun j hj => hfz _) hvs h1c hv1 3 3 _ _ hshv hsh (by omega) (blk_frozen hvb 0) (blk_frozen hvb _)).mono ?_
        rintro e w' ⟨rfl, rfl⟩
        obtain ⟨cur1, k1, k2, k3⟩ := setCells_row ((encs (Value.int .i64) xs).drop i) (0 + (i + 1)) w.drew cur hh (by simp [encs]; omega)
        obtain ⟨cur2, k4, k5, k6⟩ := setCells_row [Value.int .i64 x] (0 + i) _ cur1 k1 (by simp; omega)
        refine ⟨_, rfl, own_fin k4 hb hle hroom hcm (by omega) ?_, below_cells _ _ (below_cells _ _ (below_drew1 HB) hb) hb⟩
        rw [k6, k3, shift_list _ _ _ _ ht' hin (by have := Array.length_toList (xs := cur); omega)]
      · have hie : i = xs.length := by omega
        subst hie
        refine (Any2.slices_Insert_int_end_room hL g 0 xs.length c vb 0 1 vc [.int .i64 x] w (by decide) hroom hmx rfl (fun j hj => by rw [Nat.add_assoc]; exact hsp _ (by omega)) (fun j hj => hfz _) hvs hv1).mono ?_
        rintro e w' ⟨rfl, rfl⟩
        obtain ⟨cur2, k4, k5, k6⟩ := setCells_row [Value.int .i64 x] (0 + xs.length) w cur hh (by simp; omega)
        refine ⟨_, rfl, own_fin k4 hb hle hroom hcm (by omega) ?_, below_cells _ _ HB hb⟩
        rw [k6, Nat.zero_add, ht', List.take_append_of_le_length (by simp [encs]), List.take_of_length_le (by simp [encs])]
        simp [encs]
    · have hc' : c < xs.length + 1 := by omega
      by_cases hin : i < xs.length
      · refine (Any2.slices_Insert_int_grow hL g 0 xs.length c i vb 0 1 vc (encs (Value.int .i64) xs) [.int .i64 x] w hin (by decide) hnc hc' (by omega) hcl rfl hcells hvs h1c hv1).mono ?_
        rintro e w' ⟨rfl, rfl⟩
        have gc := grownCap_ge w (xs.length + 1) c 3
        have gm := grownCap_le_maxLen w (xs.length + 1) c 3 (by unfold maxLen; omega)
        have key : ∀ G, xs.length + 1 ≤ G → G ≤ maxLen → ∃ v1, (Ending.returned (.slice (some ⟨w.heap.size, 0, none⟩) (xs.length + 1) G)) = Ending.returned v1 ∧ Kd.R (Kd.int .i64) 3 ((((w.alloc (.cells (((encs (Value.int .i64) xs).take i).toArray ++ Builtin.zeroCells (Value.int .i64 0).cells (xs.length + 1 - i) ++ Builtin.zeroCells (Value.int .i64 0).cells (G - (xs.length + 1))) 3)).drew.setCells w.heap.size i [.int .i64 x]).drew).setCells w.heap.size (i + 1) ((encs (Value.int .i64) xs).drop i)) w0.heap.size (fun _ => True) v1 (xs.take i ++ [x] ++ xs.drop i) ∧ Below w0.heap.size w0 ((((w.alloc (.cells (((encs (Value.int .i64) xs).take i).toArray ++ Builtin.zeroCells (Value.int .i64 0).cells (xs.length + 1 - i) ++ Builtin.zeroCells (Value.int .i64 0).cells (G - (xs.length + 1))) 3)).drew.setCells w.heap.size i [.int .i64 x]).drew).setCells w.heap.size (i + 1) ((encs (Value.int .i64) xs).drop i)) := by
          intro G gc gm
          generalize hR : ((encs (Value.int .i64) xs).take i).toArray ++ Builtin.zeroCells (Value.int .i64 0).cells (xs.length + 1 - i) ++ Builtin.zeroCells (Value.int .i64 0).cells (G - (xs.length + 1)) = ROW
          have hRs : ROW.size = G := by
            rw [← hR, Array.size_append, Array.size_append, zc_size, zc_size, List.size_toArray, List.length_take, hcl]
            omega
          have hRt : ROW.toList.take i = (encs (Value.int .i64) xs).take i := by
            rw [← hR, Array.toList_append, Array.toList_append, List.append_assoc, List.toList_toArray, List.take_append_of_le_length (by rw [List.length_take]; omega), List.take_take, Nat.min_self]
          obtain ⟨cur1, k1, k2, k3⟩ := setCells_row [Value.int .i64 x] i ((w.alloc (.cells ROW 3)).drew) ROW (alloc_at_ w _) (by simp; omega)
          obtain ⟨cur2, k4, k5, k6⟩ := setCells_row ((encs (Value.int .i64) xs).drop i) (i + 1) (((w.alloc (.cells ROW 3)).drew.setCells w.heap.size i [.int .i64 x]).drew) cur1 k1 (by rw [List.length_drop]; omega)
          refine ⟨_, rfl, own_fin k4 (below_size HB) hle gc gm (by omega) ?_, below_cells _ _ (below_drew1 (below_cells _ _ (below_drew1 (below_alloc HB _)) (below_size HB))) (below_size HB)⟩
          have hd : (List.take i ROW.toList).length = i := by rw [hRt, List.length_take]; omega
          rw [k6, k3, hRt, List.take_append_of_le_length (by simp [encs]; omega), List.take_of_length_le (by simp [encs]; omega), List.take_append_of_le_length (by simp [encs]; omega), List.take_of_length_le (by simp [encs]; omega)]
          simp [encs, List.map_take, List.map_drop]
        exact key _ gc gm
      · have hie : i = xs.length := by omega
        subst hie
        refine (Any2.slices_Insert_int_end_grow hL (some ⟨g, 0, none⟩) xs.length c vb 0 1 vc (encs (Value.int .i64) xs) [.int .i64 x] w (by decide) hnc hc' (by omega) hcl rfl (fun h => by cases h) (fun a ha j v hj => by cases ha; rw [Addr.add_lit]; exact hcells j v hj) hvs hv1).mono ?_
        rintro e w' ⟨rfl, rfl⟩
        have hN := new_fin (w0 := w0) w c (xs.take xs.length ++ [x] ++ xs.drop xs.length) (xs.length + 1) hle HB (by unfold maxLen; omega)
        rw [show encs (Value.int .i64) (xs.take xs.length ++ [x] ++ xs.drop xs.length) = encs (Value.int .i64) xs ++ [.int .i64 x] by simp [encs]] at hN
        exact ⟨_, rfl, hN, below_alloc (below_drew1 HB) _⟩

def delRen : Ren := ⟨fun n => if n = 10 then 73 else 85, fun n => if n = 22 then 27 else if n = 23 then 3 else if n = 25 then 34 else n, fun n => n⟩
theorem delLays : SlLaysH.n10 Try.prog delRen where
  mixed := by kernel_rfl
  f6 := ⟨Try.f85.name, by decide, by kernel_rfl⟩
  f10 := ⟨Try.f73.name, by decide, by kernel_rfl⟩
  t0 := Try.underlying0
  a0 := Try.isAgg0
  z0 := Try.sizeOf0
  v0 := Try.zeroValue0
  t3 := Try.underlying3
  a3 := Try.isAgg3
  z3 := Try.sizeOf3
  v3 := Try.zeroValue3
  t4 := Try.underlying4
  a4 := Try.isAgg4
  z4 := Try.sizeOf4
  v4 := Try.zeroValue4
  t22 := Try.underlying27
  a22 := Try.isAgg27
  z22 := Try.sizeOf27
  v22 := Try.zeroValue27
  a23 := Try.isAgg3
  z23 := Try.sizeOf3
  t25 := Try.underlying34
  a25 := Try.isAgg34
  z25 := Try.sizeOf34
  v25 := Try.zeroValue34

/-- The closure 'x == f.A', in whatever world holds f. -/
theorem gives74 (lim x : Int) (B : Nat) (W : World) (hc : W.cell? ⟨B, 2, none⟩ = some (.int .i64 lim)) :
    FnGives Try.prog 74 #[.pointer (some ⟨B, 0, none⟩)] #[.int .i64 x] (.bool (decide (x = lim))) W := by
  show Calls Try.prog 74 #[.int .i64 x, .pointer (some ⟨B, 0, none⟩)] W _
  go_enter Try.func74, Try.ntmps74
  go_wp2
  all_goals (go_ret; exact ⟨by simp_all; rfl, 0, rfl⟩)

theorem del_calls (w0 w : World) (v : Value) (xs : List Int) (lim : Int) (B : Nat) (cells : Array Value) (t : TypeId) (HB : Below w0.heap.size w0 w) (HO : Kd.R (Kd.int .i64) 3 w w0.heap.size (fun _ => True) v xs) (hp : 0 < xs.length)
    (hbox : w.heap[B]? = some (.cells cells t (0, 0))) (hc2 : cells[2]? = some (.int .i64 lim)) (hap : some B ≠ v.ownBlock) :
    Calls Try.prog 73 #[v, .func (.func 74) #[] #[.pointer (some ⟨B, 0, none⟩)]] w fun e w' => ∃ v1, e = .returned v1 ∧ Kd.R (Kd.int .i64) 3 w' w0.heap.size (fun _ => True) v1 (xs.filter fun x => !decide (x = lim)) ∧ Below w0.heap.size w0 w' := by
  have hown := Kd.own_of_R (enc := Value.int .i64) (h1 := fun _ => rfl) HO
  obtain ⟨_, ⟨_, h0⟩ | ⟨g, cap, cur, rfl, hb, hh, hnc, hcm, hcs, ht⟩⟩ := hown
  · omega
  have hgB : B ≠ g := fun e => hap (by rw [e]; rfl)
  have hBl : B < w.heap.size := by
    rcases Nat.lt_or_ge B w.heap.size with h | h
    · exact h
    · rw [Array.getElem?_eq_none h] at hbox; cases hbox
  have hgl : g < w.heap.size := by
    rcases Nat.lt_or_ge g w.heap.size with h | h
    · exact h
    · rw [Array.getElem?_eq_none h] at hh; cases hh
  have hcell : w.cell? ⟨B, 2, none⟩ = some (.int .i64 lim) := (blk_cell hbox 2).trans hc2
  have hH : Sort.Holds (Value.int .i64) w g 0 xs.toArray := by
    intro j hj
    have hj' : j < xs.length := by simpa using hj
    refine ⟨?_, blk_frozen hh _⟩
    have h2 : (encs (Value.int .i64) xs)[j]? = some (.int .i64 (xs.toArray[j]!)) := by simp [encs, hj']
    rw [← ht, Nat.mul_one, List.getElem?_take, if_pos hj', Array.getElem?_toList] at h2
    rw [Nat.zero_add, blk_cell hh, h2]
  have hmx : cap ≤ 9223372036854775807 := by unfold maxLen at hcm; omega
  have hcon := AnyE.slices_DeleteFunc delLays (Value.int .i64) (fun _ => rfl) (fun x => decide (x = lim)) 74 #[.pointer (some ⟨B, 0, none⟩)] (enters_of Try.func74 (by kernel_rfl) rfl) 0 Try.zeroValue3 g 0 cap xs.toArray w
    (fun W x hbw => gives74 lim x B W ((hbw.cell (p := ⟨B, 2, none⟩) hBl).trans hcell))
    (fun n os dk x _ => gives74 lim x B _ (by
      unfold sortWorld
      rw [Sort.cell?_grow _ _ _ (by show B < (Sort.putRow _ _ _ _ _).heap.size; rw [Sort.size_putRow]; exact hBl), Sort.cell?_putRow_other _ _ g 0 _ _ (Or.inl hgB)]
      exact hcell))
    hH (by simp; omega) (by simpa using hnc)
  simp only [List.size_toArray] at hcon
  refine Calls.mono hcon ?_
  rintro e w' ⟨rfl, q, rfl⟩
  have hfl := List.length_filter_le (fun x => !decide (x = lim)) xs
  generalize hF : xs.filter (fun x => !decide (x = lim)) = ys at hfl ⊢
  rw [Lib.putRow_eq_setCells (Value.int .i64) w g 0 xs.toArray (ys ++ List.replicate (xs.length - ys.length) 0) q hH (by simp; omega)]
  obtain ⟨cur2, k4, k5, k6⟩ := setCells_row ((ys ++ List.replicate (xs.length - ys.length) 0).map (Value.int .i64)) 0 (w.drewN q) cur hh (by simp; omega)
  refine ⟨_, rfl, own_fin k4 hb rfl (by omega) hcm (by omega) ?_, below_cells _ _ (pw_below_drewN HB q) hb⟩
  rw [k6]
  simp [encs]
end Go.Proofs.Ytjikobdblohphaa.PFnListOne
