-- Written by the session's own program (wip/crew/mk_crewnew.py): the law's walk, each call once.
import Derived.Test.YtgghglocfdcegaaPFnExactCrewNewx0
import Derived.Test.YtgghglocfdcegaaPFnExactCrewNewx1
import Derived.Test.YtgghglocfdcegaaPFnExactCrewNewx2
import Derived.Test.YtgghglocfdcegaaPFnExactCrewNewx3
import Derived.Test.YtgghglocfdcegaaPFnExactCrewNewx4
import Derived.Test.YtgghglocfdcegaaPFnExactCrewNewx5
import Derived.Test.YtgghglocfdcegaaPFnExactCrewNewx6
import Derived.Test.YtgghglocfdcegaaPFnExactCrewNewx7
import Derived.Test.YtgghglocfdcegaaPFnExactCrewNewx8
import Derived.Test.YtgghglocfdcegaaPFnExactCrewNewx9
namespace Go.Proofs.Ytgghglocfdcegaa.PFnExactCrewNew
open Go.RowKit Go.Proofs.YtgghglocfdcegaaW.PrintWords Go.Proofs.YtgghglocfdcegaaW.PrintLast Go.Proofs.YtgghglocfdcegaaW.PrintMore
attribute [local go_sem] max2_int min2_int max_two min_two max_three min_three max_four min_four   -- for this text's walks alone
set_option linter.unusedVariables false
set_option linter.unusedSimpArgs false

/-! The marks of a crew that a call made: what the cells hold behind them. -/
def mkT (k : Nat) : List S55 → Int → Option (Int × List S55)
  | [], a => some (a, [])
  | t :: l, a => (laws_markCallS.f k t.f0 a).bind fun p0 => (laws_markIntS.f k t.f2 (wrap64 (p0.1 + 1))).bind fun p2 => (laws_markIntS.f k t.f3 p2.1).bind fun p3 => (mkT k l p3.1).bind fun q => some (q.1, ⟨p0.2, p0.1, p2.2, p3.2⟩ :: q.2)
theorem addr_at (g n : Nat) : (⟨g, 0, none⟩ : Addr).add n = ⟨g, n, none⟩ := by
  cases n with
  | zero => rfl
  | succ n => simp [Addr.add]
/-- One thread's cells and rows. -/
def El (w : World) (base : Nat) (ok : Nat → Prop) (f : Nat → Nat) (g : Nat) (cs : Array Value) (i : Nat) (t : S55) : Prop := ∃ v0 v2 v3, cs[i * 4]? = some v0 ∧ cs[i * 4 + 1]? = some (.int .i64 t.f1) ∧ cs[i * 4 + 2]? = some v2 ∧ cs[i * 4 + 3]? = some v3 ∧ k75.R 75 w base (fun k => (ok k ∧ f k = i) ∧ k ≠ g) v0 t.f0 ∧ (Kd.int .i64).R 3 w base (fun k => (ok k ∧ f k = i) ∧ k ≠ g) v2 t.f2 ∧ (Kd.int .i64).R 3 w base (fun k => (ok k ∧ f k = i) ∧ k ≠ g) v3 t.f3 ∧ ∀ k, v2.ownBlock = some k → v3.ownBlock ≠ some k
theorem El.kept {w w1 : World} {base : Nat} {ok : Nat → Prop} {f : Nat → Nat} {g : Nat} {cs : Array Value} {i j : Nat} {t : S55} {S : Nat → Prop} (h : El w base ok f g cs i t) (hk : Kept w w1 S) (hS : ∀ k, S k → f k = j) (hne : i ≠ j) : El w1 base ok f g cs i t := by
  obtain ⟨v0, v2, v3, e0, e1, e2, e3, r0, r2, r3, hap⟩ := h
  have hn : ∀ k, ((ok k ∧ f k = i) ∧ k ≠ g) → ¬ S k := fun k hk2 hs => hne (by rw [← hk2.1.2]; exact hS k hs)
  exact ⟨v0, v2, v3, e0, e1, e2, e3, Kd.R_kept r0 hk hn, Kd.R_kept r2 hk hn, Kd.R_kept r3 hk hn, hap⟩
theorem El.set {w : World} {base : Nat} {ok : Nat → Prop} {f : Nat → Nat} {g : Nat} {cs : Array Value} {i j : Nat} {t : S55} (h : El w base ok f g cs i t) (hne : i ≠ j) (u : Value) : El (w.setCell ⟨g, j * 4 + 1, none⟩ u) base ok f g (cs.setIfInBounds (j * 4 + 1) u) i t := by
  obtain ⟨v0, v2, v3, e0, e1, e2, e3, r0, r2, r3, hap⟩ := h
  refine ⟨v0, v2, v3, ?_, ?_, ?_, ?_, Kd.R_far (p := ⟨g, j * 4 + 1, none⟩) r0 (fun k hk => hk.2) u, Kd.R_far (p := ⟨g, j * 4 + 1, none⟩) r2 (fun k hk => hk.2) u, Kd.R_far (p := ⟨g, j * 4 + 1, none⟩) r3 (fun k hk => hk.2) u, hap⟩
  all_goals (rw [Array.getElem?_setIfInBounds, if_neg (by omega)]; assumption)
/-- All threads' cells and rows. -/
def Tr (w0 w : World) (ok : Nat → Prop) (f : Nat → Nat) (g m : Nat) (l : List S55) (w' : World) : Prop := Below w0.heap.size w0 w' ∧ Kept w w' ok ∧ ∃ cs : Array Value, w'.heap[g]? = some (.cells cs 55 (0, 0)) ∧ cs.size = m ∧ ∀ (i : Nat) (t : S55), l[i]? = some t → El w' w0.heap.size ok f g cs i t
/-- While thread j is marked: the others stand. -/
def TrX (w0 w : World) (ok : Nat → Prop) (f : Nat → Nat) (g m j : Nat) (l : List S55) (cs : Array Value) (w' : World) : Prop := Below w0.heap.size w0 w' ∧ Kept w w' ok ∧ w'.heap[g]? = some (.cells cs 55 (0, 0)) ∧ cs.size = m ∧ ∀ (i : Nat) (t : S55), i ≠ j → l[i]? = some t → El w' w0.heap.size ok f g cs i t
theorem TrX.call {w0 w w1 w2 : World} {ok : Nat → Prop} {f : Nat → Nat} {g m j : Nat} {l : List S55} {cs : Array Value} {S : Nat → Prop} (h : TrX w0 w ok f g m j l cs w1) (hb : Below w0.heap.size w0 w2) (hk : Kept w1 w2 S) (hS : ∀ k, S k → (ok k ∧ f k = j) ∧ k ≠ g) : TrX w0 w ok f g m j l cs w2 := by
  obtain ⟨h1, h2, h3, h4, h5⟩ := h
  refine ⟨hb, h2.then_ hk (fun k hs => .inl (hS k hs).1.1), blk_kept h3 hk (fun hs => (hS g hs).2 rfl), h4, fun i t hne ht => (h5 i t hne ht).kept hk (fun k hs => (hS k hs).1.2) hne⟩
theorem TrX.set {w0 w w1 : World} {ok : Nat → Prop} {f : Nat → Nat} {g m j : Nat} {l : List S55} {cs : Array Value} (h : TrX w0 w ok f g m j l cs w1) (hge : w0.heap.size ≤ g) (hg : ok g) (u : Value) : TrX w0 w ok f g m j l (cs.setIfInBounds (j * 4 + 1) u) (w1.setCell ⟨g, j * 4 + 1, none⟩ u) := by
  obtain ⟨h1, h2, h3, h4, h5⟩ := h
  exact ⟨below_set h1 hge, h2.setCell (.inl hg) u, blk_set h3 _ u, by simpa using h4, fun i t hne ht => (h5 i t hne ht).set hne u⟩
theorem R_owned {α : Type} {d : Kd α} {e base : Nat} {w w1 : World} {ok : Nat → Prop} {v : Value} {xs : List α} (hE : d.E = []) (h : d.R e w base ok v xs) {S : Nat → Prop} (hk : Kept w w1 S) (hne : ∀ k, v.ownBlock = some k → ¬ S k) : d.R e w1 base ok v xs :=
  Kd.R_mono (Kd.R_kept (Kd.R_tight2 hE h) hk (fun k hk2 => hne k hk2.1.symm)) (fun k hk2 => hk2.2)
theorem R_off {α β : Type} {d : Kd α} {d' : Kd β} {e e' base : Nat} {w : World} {ok ok' : Nat → Prop} {v v' : Value} {xs : List α} {ys : List β} (h : d.R e w base ok v xs) (h' : d'.R e' w base ok' v' ys) (he : e ≠ e') : ∀ k, v.ownBlock = some k → ¬ some k = v'.ownBlock := by
  intro k h1 h2
  obtain ⟨c1, g1⟩ := Kd.R_typed h k h1
  obtain ⟨c2, g2⟩ := Kd.R_typed h' k h2.symm
  rw [g1] at g2
  injection g2 with g2
  injection g2 with _ g2
  exact he g2
set_option maxRecDepth 100000 in
set_option maxHeartbeats 4000000 in
theorem markT (k : Nat) (w0 w : World) (ok : Nat → Prop) (v : Value) (l : List S55) (a r : Int) (L : List S55) (hB : Below w0.heap.size w0 w) (h : Kd.S k55 55 w w0.heap.size ok v l) (hm : mkT k l a = some (r, L)) :
    Calls Try.prog 17 #[v, .int .i64 a] w fun e w' => e = .returned (.int .i64 r) ∧ (∃ A c, v = .slice A l.length c ∧ L.length = l.length ∧ L.length ≤ c ∧ Kd.C k55 w' A L.length L) ∧ Below w0.heap.size w0 w' ∧ Kept w w' ok := by
  obtain ⟨f, hR⟩ := h
  have hR2 := hR
  obtain ⟨h0, inner, ⟨hl, ho⟩, hr⟩ := hR
  rw [List.length_zipIdx] at ho
  rcases ho with ⟨rfl, hn⟩ | ⟨g, cap, cur, rfl, hg, hh, hc, hmx, hs, ht⟩
  · obtain rfl : l = [] := List.length_eq_zero_iff.1 hn
    obtain ⟨rfl, rfl⟩ : a = r ∧ [] = L := by simpa [mkT] using hm
    go_enter Try.func17, Try.ntmps17
    go_wp2
    refine wp_loop_rounds 1 ?_
    rw [rounds_succ]
    go_wp2
    go_ret
    exact ⟨rfl, ⟨none, 0, by trivial, by trivial, Nat.le_refl 0, Kd.C_nil k55 w⟩, hB, Kept.refl _ _⟩
  · have hgo := h0 g (by simp [Value.ownBlock])
    have H0 := Aside0.mk (show Tr w0 w ok f g cur.size l w from ⟨hB, Kept.refl _ _, cur, hh, rfl, fun i t ht => by
      have hlt : i < l.length := (List.getElem?_eq_some_iff.1 ht).1
      have hz : l.zipIdx.getD (i : Int).toNat (z55, 0) = (t, i) := by simp [List.getD, List.getElem?_zipIdx, ht]
      obtain ⟨c, hcl, hM, hcc, -⟩ := Kd.R_elem hR2 (z55, 0) (i : Int) (by omega) (by omega)
      rw [hz] at hM
      obtain ⟨v0, v2, v3, rfl, r0, r2, r3, hap⟩ := k55_openA (show k55.M w w0.heap.size (fun k => (ok k ∧ k ≠ g) ∧ f k = i) t c from hM)
      have hc' : ∀ q u, [v0, Value.int .i64 t.f1, v2, v3][q]? = some u → cur[i * 4 + q]? = some u := fun q u hu => by
        have := hcc q u hu
        rw [blk_cell hh] at this
        simpa [show (Kd.tag f k55).sz = 4 from rfl] using this
      have sw : ∀ k, ((ok k ∧ k ≠ g) ∧ f k = i) → ((ok k ∧ f k = i) ∧ k ≠ g) := fun k hk => ⟨⟨hk.1.1, hk.2⟩, hk.1.2⟩
      exact ⟨v0, v2, v3, hc' 0 _ rfl, hc' 1 _ rfl, hc' 2 _ rfl, hc' 3 _ rfl, Kd.R_mono r0 sw, Kd.R_mono r2 sw, Kd.R_mono r3 sw, hap⟩⟩)
    have HE := Aside0.mk hg
    have HP := Aside0.mk hgo
    have H5 := Aside0.mk (show l.length * 4 ≤ cur.size by rw [hs, show (Kd.tag f k55).sz = 4 from rfl]; exact Nat.mul_le_mul_right _ hc)
    have HC := Aside0.mk hc
    have HM := Aside0.mk hm
    have HL := Aside0.mk (show l.length ≤ maxLen by omega)
    have hlm : l.length ≤ 9223372036854775807 := by have := HL.out; unfold maxLen at this; omega
    clear hB hg hgo h0 hR2 hl hh hmx hs ht hr hc hm
    generalize cur.size = m at H0 H5
    clear cur inner
    go_enter Try.func17, Try.ntmps17
    go_wp2
    go_loopw [1, 5] (fun v1 v5 w' => ∃ (b : Int) (j : Nat) (cur L2 : List S55), v1 = .int .i64 b ∧ v5 = .int .i64 (j : Int) ∧ j ≤ l.length ∧ Aside0 (cur.length = l.length) ∧ Aside0 (mkT k (cur.drop j) b = some (r, L2)) ∧ Aside0 (L = cur.take j ++ L2) ∧ Aside0 (Tr w0 w ok f g m cur w')) (fun _ i _ => l.length - (intOf i).toNat)
    case atStart => exact ⟨a, 0, l, L, rfl, rfl, Nat.zero_le _, ⟨rfl⟩, HM, ⟨rfl⟩, H0⟩
    case round =>
      obtain ⟨b, j, cur, L2, rfl, rfl, hj, HLen, HMk, HLL, HTr⟩ := hrel
      clear H0 HM
      by_cases hlt : j < l.length
      · have hjc : j < cur.length := by rw [HLen.out]; exact hlt
        obtain ⟨t, ht⟩ : ∃ t, cur[j]? = some t := ⟨_, List.getElem?_eq_getElem hjc⟩
        have hdr : cur.drop j = t :: cur.drop (j + 1) := by
          rw [List.drop_eq_getElem_cons hjc]
          congr 1
          exact Option.some.inj ((List.getElem?_eq_getElem hjc).symm.trans ht)
        have hmk := HMk.out
        rw [hdr] at hmk
        simp only [mkT] at hmk
        obtain ⟨⟨b1, c0⟩, m0, hmk⟩ := Option.bind_eq_some_iff.1 hmk
        obtain ⟨⟨b2, c2⟩, m2, hmk⟩ := Option.bind_eq_some_iff.1 hmk
        obtain ⟨⟨b3, c3⟩, m3, hmk⟩ := Option.bind_eq_some_iff.1 hmk
        obtain ⟨⟨rq, q2⟩, m4, hmk⟩ := Option.bind_eq_some_iff.1 hmk
        simp only at m2 m3 m4
        obtain ⟨rfl, rfl⟩ : rq = r ∧ (⟨c0, b1, c2, c3⟩ : S55) :: q2 = L2 := by simpa using hmk
        obtain ⟨t1, t2, cs, t3, t4, t5⟩ := HTr.out
        obtain ⟨v0, v2, v3, e0, e1, e2, e3, r0, r2, r3, hap⟩ := t5 j t ht
        have hx0 : wr.cell? ⟨g, j * 4, none⟩ = some v0 := (blk_cell t3 _).trans e0
        have HX0 := Aside0.mk (show TrX w0 w ok f g m j cur cs wr from ⟨t1, t2, t3, t4, fun i t _ hi => t5 i t hi⟩)
        have R0 := Aside0.mk r0
        have R2 := Aside0.mk r2
        have R3 := Aside0.mk r3
        have M0 := Aside0.mk m0
        have M2 := Aside0.mk m2
        have M3 := Aside0.mk m3
        have M4 := Aside0.mk m4
        have AP := Aside0.mk hap
        have E0 := Aside0.mk e0
        have E2 := Aside0.mk e2
        have E3 := Aside0.mk e3
        have HT := Aside0.mk ht
        have HJ := Aside0.mk hjc
        have hsz : j * 4 + 3 < cs.size := by have := H5.out; omega
        have HSZ := Aside0.mk hsz
        clear t1 t2 t3 t4 t5 r0 r2 r3 e0 e1 e2 e3 m0 m2 m3 m4 hap hmk HMk hdr HTr ht hjc hsz
        go_wp2_with fail
        refine (laws_markCallS.calls k (fun k_ => some k_ = v0.ownBlock) v0 t.f0 b b1 c0 w0 wr HX0.out.1 (Kd.R_tight rfl R0.out) M0.out).mono ?_
        rintro e w1 ⟨rfl, q0, hb1, hk1⟩
        have HX1 := Aside0.mk (HX0.out.call hb1 hk1 (fun k hk => R0.out.1 k hk.symm))
        have Q0 := Aside0.mk (Kd.R_reok rfl q0 (ok := fun k => (ok k ∧ f k = j) ∧ k ≠ g) (fun k hk => R0.out.1 k hk))
        have Q2 := Aside0.mk (R_owned rfl R2.out hk1 (R_off R2.out R0.out (by decide)))
        have Q3 := Aside0.mk (R_owned rfl R3.out hk1 (R_off R3.out R0.out (by decide)))
        clear q0 hb1 hk1 HX0 R0 R2 R3 M0 hx0
        have hx1 : ∃ x, w1.cell? ⟨g, j * 4 + 1, none⟩ = some x := ⟨cs[j * 4 + 1]'(by have := HSZ.out; omega), (blk_cell HX1.out.2.2.1 _).trans (Array.getElem?_eq_getElem _)⟩
        obtain ⟨x1, hx1⟩ := hx1
        have hf1 : w1.frozen? ⟨g, j * 4 + 1, none⟩ = false := blk_frozen HX1.out.2.2.1 _
        have hx2 : w1.cell? ⟨g, j * 4 + 2, none⟩ = some v2 := (blk_cell HX1.out.2.2.1 _).trans E2.out
        have HX2 := Aside0.mk (HX1.out.set HE.out HP.out (.int .i64 b1))
        have S0 := Aside0.mk (Kd.R_far (p := ⟨g, j * 4 + 1, none⟩) Q0.out (fun k hk => hk.2) (.int .i64 b1))
        have S2 := Aside0.mk (Kd.R_far (p := ⟨g, j * 4 + 1, none⟩) Q2.out (fun k hk => hk.2) (.int .i64 b1))
        have S3 := Aside0.mk (Kd.R_far (p := ⟨g, j * 4 + 1, none⟩) Q3.out (fun k hk => hk.2) (.int .i64 b1))
        clear HX1 Q0 Q2 Q3
        go_wp2_with fail
        refine (laws_markIntS.calls k (fun k_ => some k_ = v2.ownBlock) v2 t.f2 (wrap64 (b1 + 1)) b2 c2 w0 _ HX2.out.1 (Kd.R_tight rfl S2.out) M2.out).mono ?_
        rintro e w2 ⟨rfl, q0, hb1, hk1⟩
        have HX3 := Aside0.mk (HX2.out.call hb1 hk1 (fun k hk => S2.out.1 k hk.symm))
        have Q2 := Aside0.mk (Kd.R_reok rfl q0 (ok := fun k => (ok k ∧ f k = j) ∧ k ≠ g) (fun k hk => S2.out.1 k hk))
        have Q0 := Aside0.mk (R_owned rfl S0.out hk1 (R_off S0.out S2.out (by decide)))
        have Q3 := Aside0.mk (R_owned rfl S3.out hk1 (fun k h1 h2 => AP.out k h2.symm h1))
        clear q0 hb1 hk1 HX2 S0 S2 S3 M2 hx1 hx2 hf1
        have e3' : (cs.setIfInBounds (j * 4 + 1) (Value.int .i64 b1))[j * 4 + 3]? = some v3 := by rw [Array.getElem?_setIfInBounds, if_neg (by omega)]; exact E3.out
        have hx3 : w2.cell? ⟨g, j * 4 + 3, none⟩ = some v3 := (blk_cell HX3.out.2.2.1 _).trans e3'
        have E3' := Aside0.mk e3'
        clear e3' E3
        go_wp2_with fail
        refine (laws_markIntS.calls k (fun k_ => some k_ = v3.ownBlock) v3 t.f3 b2 b3 c3 w0 _ HX3.out.1 (Kd.R_tight rfl Q3.out) M3.out).mono ?_
        rintro e w3 ⟨rfl, q0, hb1, hk1⟩
        have HX4 := Aside0.mk (HX3.out.call hb1 hk1 (fun k hk => Q3.out.1 k hk.symm))
        have S3 := Aside0.mk (Kd.R_reok rfl q0 (ok := fun k => (ok k ∧ f k = j) ∧ k ≠ g) (fun k hk => Q3.out.1 k hk))
        have S0 := Aside0.mk (R_owned rfl Q0.out hk1 (R_off Q0.out Q3.out (by decide)))
        have S2 := Aside0.mk (R_owned rfl Q2.out hk1 (fun k h1 h2 => AP.out k h1 h2.symm))
        clear q0 hb1 hk1 HX3 Q0 Q2 Q3 M3 hx3
        have HTr2 := Aside0.mk (show Tr w0 w ok f g m (cur.set j ⟨c0, b1, c2, c3⟩) w3 from ⟨HX4.out.1, HX4.out.2.1, _, HX4.out.2.2.1, HX4.out.2.2.2.1, fun i t' hi => by
          by_cases e : i = j
          · subst e
            rw [List.getElem?_set_self HJ.out] at hi
            obtain rfl := Option.some.inj hi
            refine ⟨v0, v2, v3, ?_, ?_, ?_, E3'.out, S0.out, S2.out, S3.out, AP.out⟩
            · rw [Array.getElem?_setIfInBounds, if_neg (by omega)]; exact E0.out
            · rw [Array.getElem?_setIfInBounds, if_pos rfl, if_pos (by have := HSZ.out; omega)]
            · rw [Array.getElem?_setIfInBounds, if_neg (by omega)]; exact E2.out
          · rw [List.getElem?_set_ne (fun h => e h.symm)] at hi
            exact HX4.out.2.2.2.2 i t' e hi⟩)
        have HLen2 := Aside0.mk (show (cur.set j ⟨c0, b1, c2, c3⟩).length = l.length by rw [List.length_set]; exact HLen.out)
        have HMk2 := Aside0.mk (show mkT k ((cur.set j ⟨c0, b1, c2, c3⟩).drop (j + 1)) b3 = some (rq, q2) by rw [List.drop_set_of_lt (Nat.lt_succ_self j)]; exact M4.out)
        have HLL2 := Aside0.mk (show L = (cur.set j ⟨c0, b1, c2, c3⟩).take (j + 1) ++ q2 by
          rw [HLL.out, List.take_add_one, List.take_set_of_le (Nat.le_refl j), List.getElem?_set_self HJ.out]
          simp)
        clear HX4 S0 S2 S3 M4 AP E0 E2 E3' HT HJ HSZ HLen HLL
        go_wp2
        exact ⟨⟨b3, j + 1, _, q2, rfl, by go_num, by omega, HLen2, HMk2, HLL2, HTr2⟩, by simp [intOf]; omega⟩
      · obtain rfl : j = l.length := by omega
        have hd : cur.drop l.length = [] := List.drop_eq_nil_of_le (by rw [HLen.out]; exact Nat.le_refl _)
        have hmk := HMk.out
        rw [hd] at hmk
        obtain ⟨rfl, rfl⟩ : b = r ∧ [] = L2 := by simpa [mkT] using hmk
        have hLc : L = cur := by rw [HLL.out, ← HLen.out, List.take_length, List.append_nil]
        subst hLc
        clear HMk HLL hmk hd
        go_wp2
        go_ret
        refine ⟨rfl, ⟨_, cap, rfl, HLen.out, by rw [HLen.out]; exact HC.out, ?_⟩, HTr.out.1, HTr.out.2.1⟩
        obtain ⟨-, -, cs, c1, c2, c3⟩ := HTr.out
        refine ⟨rfl, by rw [HLen.out]; exact hlm, fun _ => ⟨_, rfl, fun i t ht => ?_⟩⟩
        obtain ⟨v0, v2, v3, e0, e1, e2, e3, r0, r2, r3, -⟩ := c3 i t ht
        obtain ⟨A0, n0, rfl, l0, g0⟩ := Kd.R_reads r0
        obtain ⟨A2, n2, rfl, l2, g2⟩ := Kd.R_reads r2
        obtain ⟨A3, n3, rfl, l3, g3⟩ := Kd.R_reads r3
        refine ⟨_, rfl, k55_mk _ t l0 g0 l2 g2 l3 g3, fun q u hu => ?_⟩
        have hcell : ∀ q u, cs[i * 4 + q]? = some u → wr.cell? ((⟨g, 0, none⟩ : Addr).add (i * k55.sz + q)) = some u := fun q u hu => by
          have := (blk_cell c1 (i * 4 + q)).trans hu
          rw [addr_at, show k55.sz = 4 from rfl]
          exact this
        rcases q with _ | _ | _ | _ | q
        · obtain rfl := Option.some.inj hu; exact hcell 0 _ e0
        · obtain rfl := Option.some.inj hu; exact hcell 1 _ e1
        · obtain rfl := Option.some.inj hu; exact hcell 2 _ e2
        · obtain rfl := Option.some.inj hu; exact hcell 3 _ e3
        · simp at hu
/-! ### laws_FnExactCrewNew: function 3 (walked by hand) -/
theorem keptI_ {α : Type} {d : Kd α} {e base x y a b : Nat} {w w1 : World} {v : Value} {xs : List α} (h : Kd.R d e w base (fun k_ => x ≤ k_ ∧ k_ < y) v xs) (hk : Kept w w1 (fun k_ => a ≤ k_ ∧ k_ < b)) (hd : y ≤ a ∨ b ≤ x) : Kd.R d e w1 base (fun k_ => x ≤ k_ ∧ k_ < y) v xs := Kd.R_kept h hk (fun k h1 h2 => by omega)
theorem blkI_ {w w1 : World} {g a b : Nat} {ob : Obj} (h : w.heap[g]? = some ob) (hk : Kept w w1 (fun k_ => a ≤ k_ ∧ k_ < b)) (hd : g < a ∨ b ≤ g) : w1.heap[g]? = some ob := blk_kept h hk (by omega)
theorem markT_len (k : Nat) : ∀ (l : List S55) (a : Int) (q : Int × List S55), mkT k l a = some q → q.2.length = l.length
  | [], a, q, h => by
    obtain rfl : (a, []) = q := by simpa [mkT] using h
    rfl
  | t :: l, a, q, h => by
    simp only [mkT] at h
    obtain ⟨⟨b1, c0⟩, m0, h⟩ := Option.bind_eq_some_iff.1 h
    obtain ⟨⟨b2, c2⟩, m2, h⟩ := Option.bind_eq_some_iff.1 h
    obtain ⟨⟨b3, c3⟩, m3, h⟩ := Option.bind_eq_some_iff.1 h
    obtain ⟨q2, m4, h⟩ := Option.bind_eq_some_iff.1 h
    obtain rfl := Option.some.inj h
    simp only [List.length_cons]
    rw [markT_len k l b3 q2 m4]
set_option maxRecDepth 100000 in
theorem markCrew_c (k : Nat) (a0 a1 a4 : Int) (w0 w : World) (x y : Nat) (u v : Value) (lm : List Int) (l : List S55) (a b r : Int) (lm2 : List Int) (L : List S55) (hB : Below w0.heap.size w0 w) (hu : Kd.R (Kd.int .i64) 3 w w0.heap.size (fun k_ => x ≤ k_ ∧ k_ < y) u lm) (hv : Kd.S k55 55 w w0.heap.size (fun k_ => (x ≤ k_ ∧ k_ < y) ∧ some k_ ≠ u.ownBlock) v l) (p1 : laws_markIntS.f k lm a = some (b, lm2)) (p2 : mkT k l b = some (r, L)) :
    Calls Try.prog 18 #[.agg #[.int .i64 a0, .int .i64 a1, u, v, .int .i64 a4], .int .i64 a] w fun e w' => e = .returned (.int .i64 r) ∧ (∃ A c, u = .slice A lm2.length c ∧ lm2.length ≤ c ∧ Kd.C (Kd.int .i64) w' A lm2.length lm2) ∧ (∃ A c, v = .slice A L.length c ∧ L.length ≤ c ∧ Kd.C k55 w' A L.length L) ∧ Below w0.heap.size w0 w' ∧ Kept w w' (fun k_ => x ≤ k_ ∧ k_ < y) := by
  have hu29 := Try.underlying29
  have HU := Aside0.mk (Kd.R_tight2 rfl hu)
  have HV := Aside0.mk hv
  have HB := Aside0.mk hB
  have P1 := Aside0.mk (show laws_markMem.f k lm a = some (b, lm2) by unfold laws_markMem.f; rw [p1]; rfl)
  have P2 := Aside0.mk p2
  clear hu hv hB p1 p2
  go_enter Try.func18, Try.ntmps18
  go_wp2_with fail
  have hb0 := below_alloc (Below.refl w.heap.size w) (.cells #[.int .i64 a0, .int .i64 a1, u, v, .int .i64 a4] 29 (0, 0))
  have HB0 := Aside0.mk hb0
  have hh := heap_alloc_new w (Obj.cells #[.int .i64 a0, .int .i64 a1, u, v, .int .i64 a4] 29 (0, 0))
  have HG := Aside0.mk (show ∀ k_, x ≤ k_ ∧ k_ < y → some k_ = u.ownBlock → k_ ≠ w.heap.size from fun k_ _ hk he => by
    have := Kd.R_lt HU.out k_ hk.symm
    omega)
  refine (laws_markMem.calls k (fun k_ => some k_ = u.ownBlock ∧ (x ≤ k_ ∧ k_ < y)) u lm a b lm2 w0 _ (below_alloc HB.out _) (Kd.R_alloc HU.out _) P1.out).mono ?_
  rintro e w1 ⟨rfl, q0, hb1, hk1⟩
  have hc : w1.heap[w.heap.size]? = some (.cells #[.int .i64 a0, .int .i64 a1, u, v, .int .i64 a4] 29 (0, 0)) := blk_kept hh hk1 (fun hs => HG.out _ hs.2 hs.1 rfl)
  have hc3 : w1.cell? ⟨w.heap.size, 3, none⟩ = some v := (blk_cell hc 3).trans rfl
  have HK1 := Aside0.mk (show Kept w w1 (fun k_ => x ≤ k_ ∧ k_ < y) from ⟨Nat.le_trans HB0.out.size hk1.1, fun i hi hn => (hk1.2 i (Nat.lt_of_lt_of_le hi HB0.out.size) (fun hs => hn hs.2)).trans (HB0.out.block i hi)⟩)
  have HV1 := Aside0.mk (Kd.S_kept (Kd.S_alloc HV.out (.cells #[.int .i64 a0, .int .i64 a1, u, v, .int .i64 a4] 29 (0, 0))) hk1 (fun k_ hk hs => hk.2 hs.1))
  have HU1 := Aside0.mk (Kd.R_reok rfl q0 (ok := fun k_ => some k_ = u.ownBlock) (fun k_ hk => hk.symm))
  have HB1 := Aside0.mk hb1
  clear hb0 hc hh q0 hb1 hk1 HV HU HG HB0
  go_wp2_with fail
  refine (markT k w0 w1 _ v l b r L HB1.out HV1.out P2.out).mono ?_
  rintro e w2 ⟨rfl, ⟨A, c, hve, hl1, hl2, hC⟩, hb2, hk2⟩
  have HU2 := Aside0.mk (Kd.R_kept HU1.out hk2 (fun k_ hk hs => hs.2 hk))
  have HK2 := Aside0.mk (show Kept w w2 (fun k_ => x ≤ k_ ∧ k_ < y) from HK1.out.then_ hk2 (fun k_ hk => .inl hk.1))
  have HR := Aside0.mk (show ∃ A c, v = .slice A L.length c ∧ L.length ≤ c ∧ Kd.C k55 w2 A L.length L from ⟨A, c, by rw [hl1]; exact hve, hl2, hC⟩)
  have HB2 := Aside0.mk hb2
  clear hve hl1 hl2 hC hk2 hb2 HU1 HV1 HK1 hc3
  go_wp2
  go_ret
  exact ⟨rfl, Kd.R_reads HU2.out, HR.out, HB2.out, HK2.out⟩
def laws_FnExactCrewNew.f (k : Nat) (a0 : Int) (a1 : Int) (a2 : Bool) (l3 : List S50) : Option Bool := (laws_szThreadS.f k l3 1048576).bind fun s => if s < 0 then some true else (laws_toThreadS.f k l3).bind fun t => (spec_CrewNew.f k a0 a1 a2 t).bind fun w0 => (impl_CrewNew.f k a0 a1 a2 t).bind fun g0 => (laws_eqCrew.f k g0.1 g0.2.1 g0.2.2.1 g0.2.2.2.1 g0.2.2.2.2.1 w0.1 w0.2.1 w0.2.2.1 w0.2.2.2.1 w0.2.2.2.2.1).bind fun e1 => (laws_eqThreadS.f k t t).bind fun e2 => (mkT k t 1).bind fun m1 => (laws_markIntS.f k g0.2.2.1 1).bind fun m2 => (mkT k g0.2.2.2.1 m2.1).bind fun m3 => (laws_heldCrew.f k g0.1 g0.2.1 m2.2 m3.2 g0.2.2.2.2.1 1).bind fun h => some (decide (g0.2.2.2.2.2 = w0.2.2.2.2.2) && (e1 && (e2 && (decide (¬ m1.1 < 0) && (decide (¬ m3.1 < 0) && decide (h = m3.1))))))

set_option maxRecDepth 100000 in
set_option maxHeartbeats 4000000 in
theorem laws_FnExactCrewNew.small (k : Nat) (a0 a1 : Int) (a2 : Bool) (A3 : Option Addr) (c3 : Nat) (l3 : List S50) (s : Int) (w : World) (hr3 : Kd.C k50 w A3 l3.length l3) (hc3 : l3.length ≤ c3) (p1 : laws_szThreadS.f k l3 1048576 = some s) (hs : s < 0) :
    Calls Try.prog 3 #[.int .i64 a0, .int .i64 a1, .bool a2, .slice A3 l3.length c3] w fun e w' => e = .returned (.bool true) ∧ Below w.heap.size w w' := by
  have HR3 := Aside0.mk hr3
  have HC3 := Aside0.mk hc3
  have P1 := Aside0.mk p1
  have hs0 : decide (s < 0) = true := decide_eq_true hs
  clear hr3 hc3 p1 hs
  go_enter Try.func3, Try.ntmps3
  go_wp2_with fail
  refine (laws_szThreadS.calls k _ _ l3 1048576 s _ HR3.out HC3.out P1.out).mono ?_
  rintro e w1 ⟨rfl, hb⟩
  have HB := Aside0.mk hb
  clear hb
  go_wp2
  go_ret
  exact ⟨rfl, HB.out⟩
set_option maxRecDepth 100000 in
set_option maxHeartbeats 16000000 in
theorem laws_FnExactCrewNew.go (k : Nat) (a0 a1 : Int) (a2 : Bool) (A3 : Option Addr) (c3 : Nat) (l3 : List S50) (s : Int) (t : List S55) (r1 r2 : Int) (r3 : List Int) (r4 : List S55) (r5 : Int) (r6 : Bool) (q1 q2 : Int) (q3 : List Int) (q4 : List S55) (q5 : Int) (m1 : Int) (L1 : List S55) (b : Int) (lm : List Int) (m : Int) (L : List S55) (w : World) (hr3 : Kd.C k50 w A3 l3.length l3) (hc3 : l3.length ≤ c3) (p1 : laws_szThreadS.f k l3 1048576 = some s) (hs : ¬ s < 0) (p2 : laws_toThreadS.f k l3 = some t) (p3 : spec_CrewNew.f k a0 a1 a2 t = some (r1, r2, r3, r4, r5, r6)) (p4 : impl_CrewNew.f k a0 a1 a2 t = some (q1, q2, q3, q4, q5, r6)) (p5 : laws_eqCrew.f k q1 q2 q3 q4 q5 r1 r2 r3 r4 r5 = some true) (p6 : laws_eqThreadS.f k t t = some true) (p7 : mkT k t 1 = some (m1, L1)) (h7 : ¬ m1 < 0) (p8 : laws_markIntS.f k q3 1 = some (b, lm)) (p9 : mkT k q4 b = some (m, L)) (p10 : laws_heldCrew.f k q1 q2 lm L q5 1 = some m) (h10 : ¬ m < 0) :
    Calls Try.prog 3 #[.int .i64 a0, .int .i64 a1, .bool a2, .slice A3 l3.length c3] w fun e w' => e = .returned (.bool true) ∧ Below w.heap.size w w' := by
  have hu29 := Try.underlying29
  have HR3 := Aside0.mk hr3
  have HC3 := Aside0.mk hc3
  have P1 := Aside0.mk p1
  have P2 := Aside0.mk p2
  have P3 := Aside0.mk p3
  have P4 := Aside0.mk p4
  have P5 := Aside0.mk p5
  have P6 := Aside0.mk p6
  have P7 := Aside0.mk p7
  have P8 := Aside0.mk p8
  have P9 := Aside0.mk p9
  have P10 := Aside0.mk p10
  have hs0 : decide (s < 0) = false := decide_eq_false hs
  have hm1 : decide (m1 < 0) = false := decide_eq_false h7
  have hm2 : decide (m < 0) = false := decide_eq_false h10
  clear hr3 hc3 hs h7 h10 p1 p2 p3 p4 p5 p6 p7 p8 p9 p10
  go_enter Try.func3, Try.ntmps3
  go_wp2_with fail
  refine (laws_szThreadS.calls k _ _ l3 1048576 s _ HR3.out HC3.out P1.out).mono ?_
  rintro e w1 ⟨rfl, hb⟩
  have HB := Aside0.mk hb
  clear hb
  go_wp2_with fail
  refine (laws_toThreadS.calls k _ _ l3 t _ (Kd.C_below HR3.out HB.out) HC3.out P2.out).mono ?_
  rintro e w2 ⟨v_, rfl, rv, hb⟩
  obtain ⟨Ax, cx, rfl⟩ := Kd.S_slice rv
  have Vx := Aside0.mk (Kd.S_lower (Kd.S_mono (Kd.S_bound rv) (ok' := fun k_ => w1.heap.size ≤ k_ ∧ k_ < w2.heap.size) (fun k_ h_ => ⟨h_.2.1, h_.2.2.1⟩)) HB.out.size)
  clear rv
  replace HB := Aside0.mk (below_step HB.out hb)
  clear hb
  go_wp2_with fail
  refine (spec_CrewNew.calls k a0 a1 a2 _ _ t r1 r2 r3 r4 r5 r6 _ (Kd.S_reads' Vx.out).2.2 (Kd.S_reads' Vx.out).2.1 P3.out).mono ?_
  rintro e w3 ⟨u_, v_, rfl, ru, rv, hb⟩
  obtain ⟨Ap2, cp2, rfl⟩ := Kd.R_slice ru
  obtain ⟨Ap3, cp3, rfl⟩ := Kd.S_slice rv
  have UP := Aside0.mk (Kd.R_lower (Kd.R_mono (Kd.R_bound ru) (ok' := fun k_ => w2.heap.size ≤ k_ ∧ k_ < w3.heap.size) (fun k_ h_ => ⟨h_.2.1, h_.2.2.1⟩)) HB.out.size)
  have VP := Aside0.mk (Kd.R_lower (Kd.R_mono (Kd.R_bound (Kd.S_R rv)) (ok' := fun k_ => w2.heap.size ≤ k_ ∧ k_ < w3.heap.size) (fun k_ h_ => ⟨h_.2.1, h_.2.2.1⟩)) HB.out.size)
  clear ru rv Vx
  replace HB := Aside0.mk (below_step HB.out hb)
  have G1 := Aside0.mk (show w2.heap.size ≤ w3.heap.size from hb.size)
  clear hb
  go_wp2_with fail
  have hd := below_alloc (Below.refl w3.heap.size w3) (Obj.cells #[.int .i64 r1, .int .i64 r2, .slice Ap2 r3.length cp2, .slice Ap3 r4.length cp3, .int .i64 r5] 29 (0, 0))
  have BP := Aside0.mk (show (w3.alloc (Obj.cells #[.int .i64 r1, .int .i64 r2, .slice Ap2 r3.length cp2, .slice Ap3 r4.length cp3, .int .i64 r5] 29 (0, 0))).heap[w3.heap.size]? = some (Obj.cells #[.int .i64 r1, .int .i64 r2, .slice Ap2 r3.length cp2, .slice Ap3 r4.length cp3, .int .i64 r5] 29 (0, 0)) from by simpa using heap_alloc_new w3 _)
  have G2 := Aside0.mk (show w3.heap.size < (w3.alloc (Obj.cells #[.int .i64 r1, .int .i64 r2, .slice Ap2 r3.length cp2, .slice Ap3 r4.length cp3, .int .i64 r5] 29 (0, 0))).heap.size from blk_lt BP.out)
  replace UP := Aside0.mk (Kd.R_below UP.out hd)
  replace VP := Aside0.mk (Kd.R_below VP.out hd)
  replace HB := Aside0.mk (below_step HB.out hd)
  clear hd
  obtain ⟨w4, hw4⟩ : ∃ w4, w4 = w3.alloc (Obj.cells #[.int .i64 r1, .int .i64 r2, .slice Ap2 r3.length cp2, .slice Ap3 r4.length cp3, .int .i64 r5] 29 (0, 0)) := ⟨_, rfl⟩
  rw [← hw4] at HB UP VP BP G2 ⊢
  clear hw4
  refine (laws_toThreadS.calls k _ _ l3 t _ (Kd.C_below HR3.out HB.out) HC3.out P2.out).mono ?_
  rintro e w5 ⟨v_, rfl, rv, hb⟩
  obtain ⟨Ay, cy, rfl⟩ := Kd.S_slice rv
  have Vy := Aside0.mk (Kd.S_lower (Kd.S_mono (Kd.S_bound rv) (ok' := fun k_ => w4.heap.size ≤ k_ ∧ k_ < w5.heap.size) (fun k_ h_ => ⟨h_.2.1, h_.2.2.1⟩)) HB.out.size)
  clear rv
  replace UP := Aside0.mk (Kd.R_below UP.out hb)
  replace VP := Aside0.mk (Kd.R_below VP.out hb)
  replace BP := Aside0.mk (blk_below BP.out hb)
  replace HB := Aside0.mk (below_step HB.out hb)
  have G3 := Aside0.mk (show w4.heap.size ≤ w5.heap.size from hb.size)
  clear hb
  go_wp2_with fail
  refine (impl_CrewNew.calls k a0 a1 a2 _ _ t q1 q2 q3 q4 q5 r6 _ (Kd.S_reads' Vy.out).2.2 (Kd.S_reads' Vy.out).2.1 P4.out).mono ?_
  rintro e w6 ⟨u_, v_, rfl, ru, rv, hb⟩
  have UQ := Aside0.mk (Kd.R_lower (Kd.R_mono (Kd.R_bound ru) (ok' := fun k_ => w5.heap.size ≤ k_ ∧ k_ < w6.heap.size) (fun k_ h_ => ⟨h_.2.1, h_.2.2.1⟩)) HB.out.size)
  have VQ := Aside0.mk (Kd.S_lower (Kd.S_mono (Kd.S_bound rv) (ok' := fun k_ => (w5.heap.size ≤ k_ ∧ k_ < w6.heap.size) ∧ some k_ ≠ u_.ownBlock) (fun k_ h_ => ⟨⟨h_.2.1, h_.2.2.1⟩, h_.1⟩)) HB.out.size)
  obtain ⟨Aq2, cq2, rfl⟩ := Kd.R_slice ru
  obtain ⟨Aq3, cq3, rfl⟩ := Kd.S_slice rv
  clear ru rv
  replace UP := Aside0.mk (Kd.R_below UP.out hb)
  replace VP := Aside0.mk (Kd.R_below VP.out hb)
  replace Vy := Aside0.mk (Kd.S_below Vy.out hb)
  replace BP := Aside0.mk (blk_below BP.out hb)
  replace HB := Aside0.mk (below_step HB.out hb)
  have G4 := Aside0.mk (show w5.heap.size ≤ w6.heap.size from hb.size)
  clear hb
  have hd := below_alloc (Below.refl w6.heap.size w6) (Obj.cells #[.int .i64 q1, .int .i64 q2, .slice Aq2 q3.length cq2, .slice Aq3 q4.length cq3, .int .i64 q5] 29 (0, 0))
  have hbx := blk_below BP.out hd
  have hx0 : (w6.alloc (Obj.cells #[.int .i64 q1, .int .i64 q2, .slice Aq2 q3.length cq2, .slice Aq3 q4.length cq3, .int .i64 q5] 29 (0, 0))).cell? ⟨w3.heap.size, 0, none⟩ = some (.int .i64 r1) := (blk_cell hbx 0).trans rfl
  have hx1 : (w6.alloc (Obj.cells #[.int .i64 q1, .int .i64 q2, .slice Aq2 q3.length cq2, .slice Aq3 q4.length cq3, .int .i64 q5] 29 (0, 0))).cell? ⟨w3.heap.size, 1, none⟩ = some (.int .i64 r2) := (blk_cell hbx 1).trans rfl
  have hx2 : (w6.alloc (Obj.cells #[.int .i64 q1, .int .i64 q2, .slice Aq2 q3.length cq2, .slice Aq3 q4.length cq3, .int .i64 q5] 29 (0, 0))).cell? ⟨w3.heap.size, 2, none⟩ = some (.slice Ap2 r3.length cp2) := (blk_cell hbx 2).trans rfl
  have hx3 : (w6.alloc (Obj.cells #[.int .i64 q1, .int .i64 q2, .slice Aq2 q3.length cq2, .slice Aq3 q4.length cq3, .int .i64 q5] 29 (0, 0))).cell? ⟨w3.heap.size, 3, none⟩ = some (.slice Ap3 r4.length cp3) := (blk_cell hbx 3).trans rfl
  have hx4 : (w6.alloc (Obj.cells #[.int .i64 q1, .int .i64 q2, .slice Aq2 q3.length cq2, .slice Aq3 q4.length cq3, .int .i64 q5] 29 (0, 0))).cell? ⟨w3.heap.size, 4, none⟩ = some (.int .i64 r5) := (blk_cell hbx 4).trans rfl
  clear hbx
  go_wp2_with fail
  clear hx0 hx1 hx2 hx3 hx4
  have BN := Aside0.mk (show (w6.alloc (Obj.cells #[.int .i64 q1, .int .i64 q2, .slice Aq2 q3.length cq2, .slice Aq3 q4.length cq3, .int .i64 q5] 29 (0, 0))).heap[w6.heap.size]? = some (Obj.cells #[.int .i64 q1, .int .i64 q2, .slice Aq2 q3.length cq2, .slice Aq3 q4.length cq3, .int .i64 q5] 29 (0, 0)) from by simpa using heap_alloc_new w6 _)
  replace UP := Aside0.mk (Kd.R_below UP.out hd)
  replace VP := Aside0.mk (Kd.R_below VP.out hd)
  replace UQ := Aside0.mk (Kd.R_below UQ.out hd)
  replace Vy := Aside0.mk (Kd.S_below Vy.out hd)
  replace VQ := Aside0.mk (Kd.S_below VQ.out hd)
  replace BP := Aside0.mk (blk_below BP.out hd)
  replace HB := Aside0.mk (below_step HB.out hd)
  clear hd
  obtain ⟨w7, hw⟩ : ∃ z, z = w6.alloc (Obj.cells #[.int .i64 q1, .int .i64 q2, .slice Aq2 q3.length cq2, .slice Aq3 q4.length cq3, .int .i64 q5] 29 (0, 0)) := ⟨_, rfl⟩
  rw [← hw] at HB BN UP VP UQ Vy VQ BP ⊢
  clear hw
  have BQ := BN
  clear BN
  refine (laws_eqCrew.calls k q1 q2 _ _ q3 _ _ q4 q5 r1 r2 _ _ r3 _ _ r4 r5 true _ (Kd.R_reads' UQ.out).2.2 (Kd.R_reads' UQ.out).2.1 (Kd.S_reads' VQ.out).2.2 (Kd.S_reads' VQ.out).2.1 (Kd.R_reads' UP.out).2.2 (Kd.R_reads' UP.out).2.1 (Kd.R_reads' VP.out).2.2 (Kd.R_reads' VP.out).2.1 P5.out).mono ?_
  rintro e w8 ⟨rfl, hb⟩
  replace UP := Aside0.mk (Kd.R_below UP.out hb)
  replace VP := Aside0.mk (Kd.R_below VP.out hb)
  replace UQ := Aside0.mk (Kd.R_below UQ.out hb)
  replace Vy := Aside0.mk (Kd.S_below Vy.out hb)
  replace VQ := Aside0.mk (Kd.S_below VQ.out hb)
  replace BP := Aside0.mk (blk_below BP.out hb)
  replace BQ := Aside0.mk (blk_below BQ.out hb)
  replace HB := Aside0.mk (below_step HB.out hb)
  clear hb
  go_wp2_with fail
  refine (laws_toThreadS.calls k _ _ l3 t _ (Kd.C_below HR3.out HB.out) HC3.out P2.out).mono ?_
  rintro e w9 ⟨v_, rfl, rv, hb⟩
  obtain ⟨Ah, ch, rfl⟩ := Kd.S_slice rv
  have Vh := Aside0.mk (Kd.S_lower (Kd.S_mono (Kd.S_bound rv) (ok' := fun k_ => w8.heap.size ≤ k_ ∧ k_ < w9.heap.size) (fun k_ h_ => ⟨h_.2.1, h_.2.2.1⟩)) HB.out.size)
  clear rv
  replace UP := Aside0.mk (Kd.R_below UP.out hb)
  replace VP := Aside0.mk (Kd.R_below VP.out hb)
  replace UQ := Aside0.mk (Kd.R_below UQ.out hb)
  replace Vy := Aside0.mk (Kd.S_below Vy.out hb)
  replace VQ := Aside0.mk (Kd.S_below VQ.out hb)
  replace BP := Aside0.mk (blk_below BP.out hb)
  replace BQ := Aside0.mk (blk_below BQ.out hb)
  replace HB := Aside0.mk (below_step HB.out hb)
  clear hb
  go_wp2_with fail
  refine (laws_eqThreadS.calls k _ _ t _ _ t true _ (Kd.S_reads' Vy.out).2.2 (Kd.S_reads' Vy.out).2.1 (Kd.S_reads' Vh.out).2.2 (Kd.S_reads' Vh.out).2.1 P6.out).mono ?_
  rintro e w10 ⟨rfl, hb⟩
  clear Vh
  replace UP := Aside0.mk (Kd.R_below UP.out hb)
  replace VP := Aside0.mk (Kd.R_below VP.out hb)
  replace UQ := Aside0.mk (Kd.R_below UQ.out hb)
  replace Vy := Aside0.mk (Kd.S_below Vy.out hb)
  replace VQ := Aside0.mk (Kd.S_below VQ.out hb)
  replace BP := Aside0.mk (blk_below BP.out hb)
  replace BQ := Aside0.mk (blk_below BQ.out hb)
  replace HB := Aside0.mk (below_step HB.out hb)
  clear hb
  go_wp2_with fail
  refine (markT k w _ (fun k_ => w4.heap.size ≤ k_ ∧ k_ < w5.heap.size) (.slice Ay t.length cy) t 1 m1 L1 HB.out Vy.out P7.out).mono ?_
  rintro e w11 ⟨rfl, -, hB11, hk⟩
  replace HB := Aside0.mk hB11
  clear hB11 Vy
  replace UP := Aside0.mk (keptI_ UP.out hk (by have g1_ := G1.out; have g2_ := G2.out; have g3_ := G3.out; have g4_ := G4.out; omega))
  replace VP := Aside0.mk (keptI_ VP.out hk (by have g1_ := G1.out; have g2_ := G2.out; have g3_ := G3.out; have g4_ := G4.out; omega))
  replace UQ := Aside0.mk (keptI_ UQ.out hk (by have g1_ := G1.out; have g2_ := G2.out; have g3_ := G3.out; have g4_ := G4.out; omega))
  replace VQ := Aside0.mk (Kd.S_kept VQ.out hk (fun k_ h1_ h2_ => by have g1_ := G1.out; have g2_ := G2.out; have g3_ := G3.out; have g4_ := G4.out; have g5_ := h1_.1; omega))
  replace BP := Aside0.mk (blkI_ BP.out hk (by have g1_ := G1.out; have g2_ := G2.out; have g3_ := G3.out; have g4_ := G4.out; omega))
  replace BQ := Aside0.mk (blkI_ BQ.out hk (by have g1_ := G1.out; have g2_ := G2.out; have g3_ := G3.out; have g4_ := G4.out; omega))
  clear hk
  have hy0 : w11.cell? ⟨w6.heap.size, 0, none⟩ = some (.int .i64 q1) := (blk_cell BQ.out 0).trans rfl
  have hy1 : w11.cell? ⟨w6.heap.size, 1, none⟩ = some (.int .i64 q2) := (blk_cell BQ.out 1).trans rfl
  have hy2 : w11.cell? ⟨w6.heap.size, 2, none⟩ = some (.slice Aq2 q3.length cq2) := (blk_cell BQ.out 2).trans rfl
  have hy3 : w11.cell? ⟨w6.heap.size, 3, none⟩ = some (.slice Aq3 q4.length cq3) := (blk_cell BQ.out 3).trans rfl
  have hy4 : w11.cell? ⟨w6.heap.size, 4, none⟩ = some (.int .i64 q5) := (blk_cell BQ.out 4).trans rfl
  have hx0 : w11.cell? ⟨w3.heap.size, 0, none⟩ = some (.int .i64 r1) := (blk_cell BP.out 0).trans rfl
  have hx1 : w11.cell? ⟨w3.heap.size, 1, none⟩ = some (.int .i64 r2) := (blk_cell BP.out 1).trans rfl
  have hx2 : w11.cell? ⟨w3.heap.size, 2, none⟩ = some (.slice Ap2 r3.length cp2) := (blk_cell BP.out 2).trans rfl
  have hx3 : w11.cell? ⟨w3.heap.size, 3, none⟩ = some (.slice Ap3 r4.length cp3) := (blk_cell BP.out 3).trans rfl
  have hx4 : w11.cell? ⟨w3.heap.size, 4, none⟩ = some (.int .i64 r5) := (blk_cell BP.out 4).trans rfl
  go_wp2_with fail
  clear hx0 hx1 hx2 hx3 hx4 hy0 hy1 hy2 hy3 hy4
  refine (laws_eqCrew.calls k q1 q2 _ _ q3 _ _ q4 q5 r1 r2 _ _ r3 _ _ r4 r5 true _ (Kd.R_reads' UQ.out).2.2 (Kd.R_reads' UQ.out).2.1 (Kd.S_reads' VQ.out).2.2 (Kd.S_reads' VQ.out).2.1 (Kd.R_reads' UP.out).2.2 (Kd.R_reads' UP.out).2.1 (Kd.R_reads' VP.out).2.2 (Kd.R_reads' VP.out).2.1 P5.out).mono ?_
  rintro e w12 ⟨rfl, hb⟩
  replace UP := Aside0.mk (Kd.R_below UP.out hb)
  replace VP := Aside0.mk (Kd.R_below VP.out hb)
  replace UQ := Aside0.mk (Kd.R_below UQ.out hb)
  replace VQ := Aside0.mk (Kd.S_below VQ.out hb)
  replace BP := Aside0.mk (blk_below BP.out hb)
  replace BQ := Aside0.mk (blk_below BQ.out hb)
  replace HB := Aside0.mk (below_step HB.out hb)
  clear hb
  have hy0 : w12.cell? ⟨w6.heap.size, 0, none⟩ = some (.int .i64 q1) := (blk_cell BQ.out 0).trans rfl
  have hy1 : w12.cell? ⟨w6.heap.size, 1, none⟩ = some (.int .i64 q2) := (blk_cell BQ.out 1).trans rfl
  have hy2 : w12.cell? ⟨w6.heap.size, 2, none⟩ = some (.slice Aq2 q3.length cq2) := (blk_cell BQ.out 2).trans rfl
  have hy3 : w12.cell? ⟨w6.heap.size, 3, none⟩ = some (.slice Aq3 q4.length cq3) := (blk_cell BQ.out 3).trans rfl
  have hy4 : w12.cell? ⟨w6.heap.size, 4, none⟩ = some (.int .i64 q5) := (blk_cell BQ.out 4).trans rfl
  go_wp2_with fail
  clear hy0 hy1 hy2 hy3 hy4
  refine (markCrew_c k q1 q2 q5 w w12 w5.heap.size w6.heap.size (.slice Aq2 q3.length cq2) (.slice Aq3 q4.length cq3) q3 q4 1 b m lm L HB.out UQ.out VQ.out P8.out P9.out).mono ?_
  rintro e w13 ⟨rfl, ⟨A2, c2, he2, hl2, hC2⟩, ⟨A3', c3', he3, hl3, hC3⟩, hB13, hk⟩
  injection he2 with e1 e2 e3
  subst e1 e3
  injection he3 with e4 e5 e6
  subst e4 e6
  replace HB := Aside0.mk hB13
  clear hB13 UQ VQ
  replace UP := Aside0.mk (keptI_ UP.out hk (by have g1_ := G1.out; have g2_ := G2.out; have g3_ := G3.out; have g4_ := G4.out; omega))
  replace VP := Aside0.mk (keptI_ VP.out hk (by have g1_ := G1.out; have g2_ := G2.out; have g3_ := G3.out; have g4_ := G4.out; omega))
  replace BP := Aside0.mk (blkI_ BP.out hk (by have g1_ := G1.out; have g2_ := G2.out; have g3_ := G3.out; have g4_ := G4.out; omega))
  replace BQ := Aside0.mk (blkI_ BQ.out hk (by have g1_ := G1.out; have g2_ := G2.out; have g3_ := G3.out; have g4_ := G4.out; omega))
  clear hk
  have CM := Aside0.mk hC2
  have CT := Aside0.mk hC3
  have LM := Aside0.mk hl2
  have LT := Aside0.mk hl3
  have EM := Aside0.mk e2
  have ET := Aside0.mk e5
  clear hC2 hC3 hl2 hl3 e2 e5
  have hy0 : w13.cell? ⟨w6.heap.size, 0, none⟩ = some (.int .i64 q1) := (blk_cell BQ.out 0).trans rfl
  have hy1 : w13.cell? ⟨w6.heap.size, 1, none⟩ = some (.int .i64 q2) := (blk_cell BQ.out 1).trans rfl
  have hy2 : w13.cell? ⟨w6.heap.size, 2, none⟩ = some (.slice Aq2 q3.length cq2) := (blk_cell BQ.out 2).trans rfl
  have hy3 : w13.cell? ⟨w6.heap.size, 3, none⟩ = some (.slice Aq3 q4.length cq3) := (blk_cell BQ.out 3).trans rfl
  have hy4 : w13.cell? ⟨w6.heap.size, 4, none⟩ = some (.int .i64 q5) := (blk_cell BQ.out 4).trans rfl
  go_wp2_with fail
  clear hy0 hy1 hy2 hy3 hy4
  have hq := laws_heldCrew.calls k q1 q2 Aq2 cq2 lm Aq3 cq3 L q5 1 m w13 CM.out LM.out CT.out LT.out P10.out
  rw [← EM.out, ← ET.out] at hq
  refine hq.mono ?_
  clear hq
  rintro e w14 ⟨rfl, hb⟩
  replace UP := Aside0.mk (Kd.R_below UP.out hb)
  replace VP := Aside0.mk (Kd.R_below VP.out hb)
  replace BP := Aside0.mk (blk_below BP.out hb)
  replace BQ := Aside0.mk (blk_below BQ.out hb)
  replace CM := Aside0.mk (Kd.C_below CM.out hb)
  replace CT := Aside0.mk (Kd.C_below CT.out hb)
  replace HB := Aside0.mk (below_step HB.out hb)
  clear hb
  go_wp2_with fail
  refine (laws_toThreadS.calls k _ _ l3 t _ (Kd.C_below HR3.out HB.out) HC3.out P2.out).mono ?_
  rintro e w15 ⟨v_, rfl, rv, hb⟩
  obtain ⟨Az, cz, rfl⟩ := Kd.S_slice rv
  have Vz := Aside0.mk (Kd.S_lower (Kd.S_mono (Kd.S_bound rv) (ok' := fun k_ => w14.heap.size ≤ k_ ∧ k_ < w15.heap.size) (fun k_ h_ => ⟨h_.2.1, h_.2.2.1⟩)) HB.out.size)
  clear rv
  replace UP := Aside0.mk (Kd.R_below UP.out hb)
  replace VP := Aside0.mk (Kd.R_below VP.out hb)
  replace BP := Aside0.mk (blk_below BP.out hb)
  replace BQ := Aside0.mk (blk_below BQ.out hb)
  replace CM := Aside0.mk (Kd.C_below CM.out hb)
  replace CT := Aside0.mk (Kd.C_below CT.out hb)
  replace HB := Aside0.mk (below_step HB.out hb)
  clear hb
  go_wp2_with fail
  refine (impl_CrewNew.calls k a0 a1 a2 _ _ t q1 q2 q3 q4 q5 r6 _ (Kd.S_reads' Vz.out).2.2 (Kd.S_reads' Vz.out).2.1 P4.out).mono ?_
  rintro e w16 ⟨u_, v_, rfl, ru, rv, hb⟩
  obtain ⟨At2, ct2, rfl⟩ := Kd.R_slice ru
  obtain ⟨At3, ct3, rfl⟩ := Kd.S_slice rv
  have UT := Aside0.mk ru
  have VT := Aside0.mk (Kd.S_R rv)
  clear ru rv Vz
  replace UP := Aside0.mk (Kd.R_below UP.out hb)
  replace VP := Aside0.mk (Kd.R_below VP.out hb)
  replace BP := Aside0.mk (blk_below BP.out hb)
  replace BQ := Aside0.mk (blk_below BQ.out hb)
  replace CM := Aside0.mk (Kd.C_below CM.out hb)
  replace CT := Aside0.mk (Kd.C_below CT.out hb)
  replace HB := Aside0.mk (below_step HB.out hb)
  clear hb
  have hd := below_alloc (Below.refl w16.heap.size w16) (Obj.cells #[.int .i64 q1, .int .i64 q2, .slice At2 q3.length ct2, .slice At3 q4.length ct3, .int .i64 q5] 29 (0, 0))
  have hbx := blk_below BP.out hd
  have hx0 : (w16.alloc (Obj.cells #[.int .i64 q1, .int .i64 q2, .slice At2 q3.length ct2, .slice At3 q4.length ct3, .int .i64 q5] 29 (0, 0))).cell? ⟨w3.heap.size, 0, none⟩ = some (.int .i64 r1) := (blk_cell hbx 0).trans rfl
  have hx1 : (w16.alloc (Obj.cells #[.int .i64 q1, .int .i64 q2, .slice At2 q3.length ct2, .slice At3 q4.length ct3, .int .i64 q5] 29 (0, 0))).cell? ⟨w3.heap.size, 1, none⟩ = some (.int .i64 r2) := (blk_cell hbx 1).trans rfl
  have hx2 : (w16.alloc (Obj.cells #[.int .i64 q1, .int .i64 q2, .slice At2 q3.length ct2, .slice At3 q4.length ct3, .int .i64 q5] 29 (0, 0))).cell? ⟨w3.heap.size, 2, none⟩ = some (.slice Ap2 r3.length cp2) := (blk_cell hbx 2).trans rfl
  have hx3 : (w16.alloc (Obj.cells #[.int .i64 q1, .int .i64 q2, .slice At2 q3.length ct2, .slice At3 q4.length ct3, .int .i64 q5] 29 (0, 0))).cell? ⟨w3.heap.size, 3, none⟩ = some (.slice Ap3 r4.length cp3) := (blk_cell hbx 3).trans rfl
  have hx4 : (w16.alloc (Obj.cells #[.int .i64 q1, .int .i64 q2, .slice At2 q3.length ct2, .slice At3 q4.length ct3, .int .i64 q5] 29 (0, 0))).cell? ⟨w3.heap.size, 4, none⟩ = some (.int .i64 r5) := (blk_cell hbx 4).trans rfl
  clear hbx
  go_wp2_with fail
  clear hx0 hx1 hx2 hx3 hx4
  have BN := Aside0.mk (show (w16.alloc (Obj.cells #[.int .i64 q1, .int .i64 q2, .slice At2 q3.length ct2, .slice At3 q4.length ct3, .int .i64 q5] 29 (0, 0))).heap[w16.heap.size]? = some (Obj.cells #[.int .i64 q1, .int .i64 q2, .slice At2 q3.length ct2, .slice At3 q4.length ct3, .int .i64 q5] 29 (0, 0)) from by simpa using heap_alloc_new w16 _)
  replace UP := Aside0.mk (Kd.R_below UP.out hd)
  replace VP := Aside0.mk (Kd.R_below VP.out hd)
  replace UT := Aside0.mk (Kd.R_below UT.out hd)
  replace VT := Aside0.mk (Kd.R_below VT.out hd)
  replace BP := Aside0.mk (blk_below BP.out hd)
  replace BQ := Aside0.mk (blk_below BQ.out hd)
  replace CM := Aside0.mk (Kd.C_below CM.out hd)
  replace CT := Aside0.mk (Kd.C_below CT.out hd)
  replace HB := Aside0.mk (below_step HB.out hd)
  clear hd
  obtain ⟨w17, hw⟩ : ∃ z, z = w16.alloc (Obj.cells #[.int .i64 q1, .int .i64 q2, .slice At2 q3.length ct2, .slice At3 q4.length ct3, .int .i64 q5] 29 (0, 0)) := ⟨_, rfl⟩
  rw [← hw] at HB BN UP VP UT VT BP BQ CM CT ⊢
  clear hw
  clear BN
  refine (laws_eqCrew.calls k q1 q2 _ _ q3 _ _ q4 q5 r1 r2 _ _ r3 _ _ r4 r5 true _ (Kd.R_reads' UT.out).2.2 (Kd.R_reads' UT.out).2.1 (Kd.R_reads' VT.out).2.2 (Kd.R_reads' VT.out).2.1 (Kd.R_reads' UP.out).2.2 (Kd.R_reads' UP.out).2.1 (Kd.R_reads' VP.out).2.2 (Kd.R_reads' VP.out).2.1 P5.out).mono ?_
  rintro e w18 ⟨rfl, hb⟩
  replace UP := Aside0.mk (Kd.R_below UP.out hb)
  replace VP := Aside0.mk (Kd.R_below VP.out hb)
  replace UT := Aside0.mk (Kd.R_below UT.out hb)
  replace VT := Aside0.mk (Kd.R_below VT.out hb)
  replace BP := Aside0.mk (blk_below BP.out hb)
  replace BQ := Aside0.mk (blk_below BQ.out hb)
  replace CM := Aside0.mk (Kd.C_below CM.out hb)
  replace CT := Aside0.mk (Kd.C_below CT.out hb)
  replace HB := Aside0.mk (below_step HB.out hb)
  clear hb
  have hy0 : w18.cell? ⟨w6.heap.size, 0, none⟩ = some (.int .i64 q1) := (blk_cell BQ.out 0).trans rfl
  have hy1 : w18.cell? ⟨w6.heap.size, 1, none⟩ = some (.int .i64 q2) := (blk_cell BQ.out 1).trans rfl
  have hy2 : w18.cell? ⟨w6.heap.size, 2, none⟩ = some (.slice Aq2 q3.length cq2) := (blk_cell BQ.out 2).trans rfl
  have hy3 : w18.cell? ⟨w6.heap.size, 3, none⟩ = some (.slice Aq3 q4.length cq3) := (blk_cell BQ.out 3).trans rfl
  have hy4 : w18.cell? ⟨w6.heap.size, 4, none⟩ = some (.int .i64 q5) := (blk_cell BQ.out 4).trans rfl
  go_wp2_with fail
  clear hy0 hy1 hy2 hy3 hy4
  have hq := laws_heldCrew.calls k q1 q2 Aq2 cq2 lm Aq3 cq3 L q5 1 m w18 CM.out LM.out CT.out LT.out P10.out
  rw [← EM.out, ← ET.out] at hq
  refine hq.mono ?_
  clear hq
  rintro e w19 ⟨rfl, hb⟩
  replace UP := Aside0.mk (Kd.R_below UP.out hb)
  replace VP := Aside0.mk (Kd.R_below VP.out hb)
  replace UT := Aside0.mk (Kd.R_below UT.out hb)
  replace VT := Aside0.mk (Kd.R_below VT.out hb)
  replace BP := Aside0.mk (blk_below BP.out hb)
  replace BQ := Aside0.mk (blk_below BQ.out hb)
  replace CM := Aside0.mk (Kd.C_below CM.out hb)
  replace CT := Aside0.mk (Kd.C_below CT.out hb)
  replace HB := Aside0.mk (below_step HB.out hb)
  clear hb
  go_wp2
  go_ret
  exact ⟨rfl, HB.out⟩
def wfT106 (x : S106) : Prop := (Lit.int .i64 x.f0).wf = true ∧ (Lit.int .i64 x.f1).wf = true ∧ (Lit.int .i64 x.f2).wf = true ∧ (Lit.int .i64 x.f3).wf = true ∧ (Lit.int .i64 x.f4).wf = true ∧ (Lit.int .i64 x.f5).wf = true ∧ (Lit.int .i64 x.f6).wf = true ∧ (Lit.int .i64 x.f7).wf = true ∧ (Lit.int .i64 x.f8).wf = true ∧ True
def wfT50 (x : S50) : Prop := (x.f0.length ≤ maxLen ∧ ∀ y ∈ x.f0, wfT106 y) ∧ (Lit.int .i64 x.f1).wf = true ∧ (x.f2.length ≤ maxLen ∧ ∀ y ∈ x.f2, (Lit.int .i64 y).wf = true) ∧ (x.f3.length ≤ maxLen ∧ ∀ y ∈ x.f3, (Lit.int .i64 y).wf = true)
def laws_FnExactCrewNew.Pure : Prop := ∀ (a0 a1 : Int) (a2 : Bool) (l3 : List S50), ((Lit.int .i64 a0).wf = true ∧ (Lit.int .i64 a1).wf = true ∧ l3.length ≤ maxLen ∧ ∀ y ∈ l3, wfT50 y) →
  (∃ k s, laws_szThreadS.f k l3 1048576 = some s ∧ s < 0) ∨ ∃ (k : Nat) (s : Int) (t : List S55) (r1 r2 : Int) (r3 : List Int) (r4 : List S55) (r5 : Int) (r6 : Bool) (q1 q2 : Int) (q3 : List Int) (q4 : List S55) (q5 : Int) (m1 : Int) (L1 : List S55) (b : Int) (lm : List Int) (m : Int) (L : List S55), laws_szThreadS.f k l3 1048576 = some s ∧ ¬ s < 0 ∧ laws_toThreadS.f k l3 = some t ∧ spec_CrewNew.f k a0 a1 a2 t = some (r1, r2, r3, r4, r5, r6) ∧ impl_CrewNew.f k a0 a1 a2 t = some (q1, q2, q3, q4, q5, r6) ∧ laws_eqCrew.f k q1 q2 q3 q4 q5 r1 r2 r3 r4 r5 = some true ∧ laws_eqThreadS.f k t t = some true ∧ mkT k t 1 = some (m1, L1) ∧ ¬ m1 < 0 ∧ laws_markIntS.f k q3 1 = some (b, lm) ∧ mkT k q4 b = some (m, L) ∧ laws_heldCrew.f k q1 q2 lm L q5 1 = some m ∧ ¬ m < 0
end Go.Proofs.Ytgghglocfdcegaa.PFnExactCrewNew
