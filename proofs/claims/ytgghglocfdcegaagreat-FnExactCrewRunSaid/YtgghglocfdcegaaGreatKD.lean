/- Part D of the proof of FnExactCrewStep and FnExactCrewRun (wip/xec, pack.py). No condition. -/
import Derived.Test.YtgghglocfdcegaaGreatKC
namespace Go.Proofs.YtgghglocfdcegaaGreat.PFnExactCrewRun
open Go.RowKit Go.Proofs.YtgghglocfdcegaaGreatW.PrintWords Go.Proofs.YtgghglocfdcegaaGreatW.PrintLast Go.Proofs.YtgghglocfdcegaaGreatW.PrintMore
attribute [local go_sem] max2_int min2_int max_two min_two max_three min_three max_four min_four
set_option linter.unusedVariables false
set_option linter.unusedSimpArgs false
theorem eqA54 (d : Nat) (w : World) (x0 y0 : Int) (x1 y1 : Int) (x2 y2 : Int) (x3 y3 : Int) (x4 y4 : Int) (x5 y5 : Int) (x6 y6 : Int) (x7 y7 : Int) (x8 y8 : Int) (x9 y9 : Bool) :
    (Op.equalIn (d + 2) 54 (.agg #[.int .i64 x0, .int .i64 x1, .int .i64 x2, .int .i64 x3, .int .i64 x4, .int .i64 x5, .int .i64 x6, .int .i64 x7, .int .i64 x8, .bool x9]) (.agg #[.int .i64 y0, .int .i64 y1, .int .i64 y2, .int .i64 y3, .int .i64 y4, .int .i64 y5, .int .i64 y6, .int .i64 y7, .int .i64 y8, .bool y9])).run Tryz.prog w = .ok (x0 == y0 && (x1 == y1 && (x2 == y2 && (x3 == y3 && (x4 == y4 && (x5 == y5 && (x6 == y6 && (x7 == y7 && (x8 == y8 && (x9 == y9)))))))))) w := by
  refine eqA_of Tryz.underlying54 (by kernel_rfl) ?_
  refine eqf_cons (by rfl) (by go_simp; rfl) (by go_simp; rfl) (by go_simp) ?_
  refine eqf_cons (by rfl) (by go_simp; rfl) (by go_simp; rfl) (by go_simp) ?_
  refine eqf_cons (by rfl) (by go_simp; rfl) (by go_simp; rfl) (by go_simp) ?_
  refine eqf_cons (by rfl) (by go_simp; rfl) (by go_simp; rfl) (by go_simp) ?_
  refine eqf_cons (by rfl) (by go_simp; rfl) (by go_simp; rfl) (by go_simp) ?_
  refine eqf_cons (by rfl) (by go_simp; rfl) (by go_simp; rfl) (by go_simp) ?_
  refine eqf_cons (by rfl) (by go_simp; rfl) (by go_simp; rfl) (by go_simp) ?_
  refine eqf_cons (by rfl) (by go_simp; rfl) (by go_simp; rfl) (by go_simp) ?_
  refine eqf_cons (by rfl) (by go_simp; rfl) (by go_simp; rfl) (by go_simp) ?_
  exact eqf_last (by rfl) (by go_simp; rfl) (by go_simp; rfl) (by go_simp)
end Go.Proofs.YtgghglocfdcegaaGreat.PFnExactCrewRun
namespace Go.Proofs.YtgghglocfdcegaaGreat.Xec
open Go Go.RowKit Go.Proofs.YtgghglocfdcegaaGreat.PFnExactCrewRun Go.Proofs.YtgghglocfdcegaaGreatW.PrintWords
set_option linter.unusedVariables false
set_option linter.unusedSimpArgs false
def eqCl (c d : S54) : Bool := c.f0 == d.f0 && (c.f1 == d.f1 && (c.f2 == d.f2 && (c.f3 == d.f3 && (c.f4 == d.f4 && (c.f5 == d.f5 && (c.f6 == d.f6 && (c.f7 == d.f7 && (c.f8 == d.f8 && (c.f9 == d.f9)))))))))
def eqC (ec : S54 → S54 → Bool) (l m : List AV) : Option Bool := (dC (.agg l)).bind fun c => (dC (.agg m)).bind fun d => some (ec c d)
theorem ZfW {cs : List AV} {c : S54} (h : dC (.agg cs) = some c) (R : Nat → Row) : (AV.vs R cs).toArray = #[.int .i64 c.f0, .int .i64 c.f1, .int .i64 c.f2, .int .i64 c.f3, .int .i64 c.f4, .int .i64 c.f5, .int .i64 c.f6, .int .i64 c.f7, .int .i64 c.f8, .bool c.f9] := by
 rw [(Zcc h R).1]
 rfl
theorem ZgD {l m : List AV} {q : Bool} (h : eqC eqCl l m = some q) (R : Nat → Row) (x y : Operand) (w : World) : (eqGuard .eql 54 x y (.agg (AV.vs R l).toArray) (.agg (AV.vs R m).toArray)).run Tryz.prog w = .ok () w ∧ (eqGuard .neq 54 x y (.agg (AV.vs R l).toArray) (.agg (AV.vs R m).toArray)).run Tryz.prog w = .ok () w ∧ (Op.equal 54 (.agg (AV.vs R l).toArray) (.agg (AV.vs R m).toArray)).run Tryz.prog w = .ok q w := by
 obtain ⟨c, e1, h⟩ := Option.bind_eq_some_iff.1 h
 obtain ⟨d, e2, h⟩ := Option.bind_eq_some_iff.1 h
 injection h with h
 subst h
 refine ⟨run_eqGuard_agg w .eql 54 x y _ _ Tryz.eqGuardType54, run_eqGuard_agg w .neq 54 x y _ _ Tryz.eqGuardType54, ?_⟩
 rw [ZfW e1 R, ZfW e2 R]
 exact eqA54 _ w _ _ _ _ _ _ _ _ _ _ _ _ _ _ _ _ _ _ _ _
def mkXE (O : Ops) (L : List (FuncId × (List AV → Option AV))) (M : List (FuncId × (List AV → List AV → Option (List AV × AV)))) (rs : List Row) (ec : S54 → S54 → Bool) : Cx := ⟨tab, O, ZZ rs, look L, ZeA M, fun t => if t == 54 then some (eqC ec) else none⟩
theorem Ze4 {O : Ops} (hO : O = std) {L : List (FuncId × (List AV → Option AV))} (hL : All L) {M : List (FuncId × (List AV → List AV → Option (List AV × AV)))} (hM : AllM M) {rs : List Row} {d1 : Nat → Nat} {n1 : Nat} {w : World} (hr : ∀ r, ZaV (ZZ rs) (Bx d1 n1) w r) {ec : S54 → S54 → Bool} (he : ec = eqCl) : CxOk Tryz.prog (mkXE O L M rs ec) d1 n1 w := by
 have h := Zaw hO hL hM hr
 refine ⟨h.T, h.nz, h.O, h.R, h.C, h.M, fun t f l m q h1 h2 x y w => ?_, h.W, h.W1, h.V⟩
 simp only [mkXE] at h1
 split at h1
 ·rename_i ht
  rw [beq_iff_eq] at ht
  subst ht
  injection h1 with h1
  subst h1 he
  exact ZgD h2 _ x y w
 ·cases h1
theorem ZdG {cur c' : List Value} {a s p : Nat} (hl : c'.length = s) (ha : a + s ≤ cur.length) : (cur.take a ++ (c' ++ cur.drop (a + s)))[p]? = if p < a then cur[p]? else if p < a + s then c'[p - a]? else cur[p]? := by
 have h1 : (cur.take a).length = a := by rw [List.length_take]; omega
 by_cases h : p < a
 ·rw [if_pos h, List.getElem?_append_left (by omega), List.getElem?_take, if_pos h]
 ·rw [if_neg h, List.getElem?_append_right (by omega), h1]
  by_cases h2 : p < a + s
  ·rw [if_pos h2, List.getElem?_append_left (by omega)]
  ·rw [if_neg h2, List.getElem?_append_right (by omega), List.getElem?_drop, hl]
   congr 1
   omega
theorem seg_get (l : List Value) (a s q : Nat) : ((l.drop a).take s)[q]? = if q < s then l[a + q]? else none := by
 rw [List.getElem?_take, List.getElem?_drop]
theorem ZeY {w : World} {base e sz g n cap : Nat} {inner : List Value} (h : w.ownsRow base e sz (.slice (some ⟨g, 0, none⟩) n cap) n inner) {i : Nat} (hi : i < n) :
 ∃ cur : List Value, w.heap[g]? = some (.cells cur.toArray e (0, 0)) ∧ base ≤ g ∧ i * sz + sz ≤ cur.length ∧ cur = cur.take (i * sz) ++ ((inner.drop (i * sz)).take sz ++ cur.drop (i * sz + sz)) ∧
  ∀ (w' : World) (c' : List Value), c'.length = sz → w'.heap[g]? = some (.cells (cur.take (i * sz) ++ (c' ++ cur.drop (i * sz + sz))).toArray e (0, 0)) → ∃ inner', w'.ownsRow base e sz (.slice (some ⟨g, 0, none⟩) n cap) n inner' ∧ (inner'.drop (i * sz)).take sz = c' ∧ ∀ j, j < n → j ≠ i → (inner'.drop (j * sz)).take sz = (inner.drop (j * sz)).take sz := by
 obtain ⟨hl, ho⟩ := h
 rcases ho with ⟨hv, h0⟩ | ⟨g', cap', cur, hv, hg, hh, hc, hmx, hs, ht⟩
 ·omega
 injection hv with e1 e2 e3
 injection e1 with e1
 injection e1 with e1
 subst e1 e3
 have hle : i * sz + sz ≤ n * sz := by rw [← Nat.succ_mul]; exact Nat.mul_le_mul_right _ hi
 have hcs : n * sz ≤ cur.toList.length := by rw [Array.length_toList, hs]; exact Nat.mul_le_mul_right _ hc
 have hcl : i * sz + sz ≤ cur.toList.length := Nat.le_trans hle hcs
 refine ⟨cur.toList, hh, hg, hcl, ?_, fun w' c' hl' hh' => ⟨(cur.toList.take (i * sz) ++ (c' ++ cur.toList.drop (i * sz + sz))).take (n * sz), ⟨?_, .inr ⟨g, cap, _, rfl, hg, hh', hc, hmx, ?_, rfl⟩⟩, ?_, fun j hj hne => ?_⟩⟩
 ·apply List.ext_getElem?
  intro p
  have hlen : ((inner.drop (i * sz)).take sz).length = sz := by rw [List.length_take, List.length_drop]; omega
  rw [ZdG hlen hcl]
  split
  ·rfl
  ·split
   ·rw [seg_get, if_pos (by omega), ← ht, List.getElem?_take, if_pos (by omega)]
    congr 1
    omega
   ·rfl
 ·simp only [List.length_take, List.length_append, List.length_drop]
  omega
 ·simp only [List.size_toArray, List.length_append, List.length_take, List.length_drop, hl']
  rw [Array.length_toList] at hcl ⊢
  omega
 ·apply List.ext_getElem?
  intro p
  rw [seg_get]
  split
  ·rename_i hp
   rw [List.getElem?_take, if_pos (by omega), ZdG hl' hcl, if_neg (by omega), if_pos (by omega)]
   congr 1
   omega
  ·rw [List.getElem?_eq_none (by omega)]
 ·apply List.ext_getElem?
  intro p
  have hj' : j * sz + sz ≤ n * sz := by rw [← Nat.succ_mul]; exact Nat.mul_le_mul_right _ hj
  rw [seg_get, seg_get]
  split
  ·rename_i hp
   rw [show inner[j * sz + p]? = cur.toList[j * sz + p]? by rw [← ht, List.getElem?_take, if_pos (by omega)], List.getElem?_take, if_pos (by omega), ZdG hl' hcl]
   rcases Nat.lt_or_gt_of_ne hne with h | h
   ·have : j * sz + sz ≤ i * sz := by rw [← Nat.succ_mul]; exact Nat.mul_le_mul_right _ h
    rw [if_pos (by omega)]
   ·have : i * sz + sz ≤ j * sz := by rw [← Nat.succ_mul]; exact Nat.mul_le_mul_right _ h
    rw [if_neg (by omega), if_neg (by omega)]
  ·rfl
theorem Zfl {α : Type} {d : Kd α} (hE : d.E = []) {w w' : World} {base : Nat} {ok ok' : Nat → Prop} {x : α} {cs : List Value} (h : d.M w base ok x cs) : d.M w' base ok' x cs :=
 d.M_mono (ok := fun _ => False) (fun _ hk => hk.elim) (d.M_move (fun _ hk => hk.elim) (d.M_mono (fun k hk => by
  obtain ⟨_, _, _, q, hq, _⟩ := hk
  rw [hE] at hq
  cases hq) (d.M_bound h)))
theorem ZdX {α : Type} {d : Kd α} (hE : d.E = []) {e g n cap base : Nat} {w : World} {ok : Nat → Prop} {xs : List α} (h : d.R e w base ok (.slice (some ⟨g, 0, none⟩) n cap) xs) {i : Nat} {x : α} (hi : xs[i]? = some x) :
 ∃ cur c : List Value, w.heap[g]? = some (.cells (cur.take (i * d.sz) ++ (c ++ cur.drop (i * d.sz + d.sz))).toArray e (0, 0)) ∧ base ≤ g ∧ ok g ∧ (cur.take (i * d.sz)).length = i * d.sz ∧ d.M w base (fun _ => False) x c ∧
  ∀ (w' : World) (x' : α) (c' : List Value), w'.heap[g]? = some (.cells (cur.take (i * d.sz) ++ (c' ++ cur.drop (i * d.sz + d.sz))).toArray e (0, 0)) → d.M w' base (fun _ => False) x' c' → d.R e w' base ok (.slice (some ⟨g, 0, none⟩) n cap) (xs.set i x') := by
 obtain ⟨hok, inner, ho, hr⟩ := h
 have hn : n = xs.length := by
  rcases ho.2 with ⟨hv, h0⟩ | ⟨g', cap', cur, hv, _⟩
  ·cases hv
  ·injection hv
 subst hn
 obtain ⟨cur, h1, h2, h3, h4, h5⟩ := ZeY ho (List.getElem?_eq_some_iff.1 hi).1
 refine ⟨cur, (inner.drop (i * d.sz)).take d.sz, by rw [← h4]; exact h1, h2, hok g rfl, by rw [List.length_take]; omega, Zfl hE (hr.2 i x hi), fun w' x' c' hh hM => ?_⟩
 obtain ⟨inner', g1, g2, g3⟩ := h5 w' c' (d.K_len (d.K_of_M hM)) hh
 refine ⟨hok, inner', by rw [List.length_set]; exact g1, by rw [List.length_set]; exact g1.1, fun j p hj => ?_⟩
 by_cases he : j = i
 ·subst he
  rw [List.getElem?_set_self (List.getElem?_eq_some_iff.1 hi).1] at hj
  injection hj with hj
  subst hj
  rw [g2]
  exact Zfl hE hM
 ·rw [List.getElem?_set_ne (Ne.symm he)] at hj
  rw [g3 j (List.getElem?_eq_some_iff.1 hj).1 he]
  exact Zfl hE (hr.2 j p hj)
theorem ZgH {α : Type} {d : Kd α} {e g n cap base : Nat} {w : World} {ok : Nat → Prop} {xs : List α} (h : Kd.S d e w base ok (.slice (some ⟨g, 0, none⟩) n cap) xs) {i : Nat} {x : α} (hi : xs[i]? = some x) :
 ∃ (cur c : List Value) (oki : Nat → Prop), w.heap[g]? = some (.cells (cur.take (i * d.sz) ++ (c ++ cur.drop (i * d.sz + d.sz))).toArray e (0, 0)) ∧ base ≤ g ∧ ok g ∧ (cur.take (i * d.sz)).length = i * d.sz ∧ d.M w base oki x c ∧ (∀ k, oki k → ok k ∧ k ≠ g) ∧
  ∀ (w' : World) (x' : α) (c' : List Value), w'.heap[g]? = some (.cells (cur.take (i * d.sz) ++ (c' ++ cur.drop (i * d.sz + d.sz))).toArray e (0, 0)) → (∀ k, ok k → k ≠ g → ¬ oki k → k < w.heap.size → w'.heap[k]? = w.heap[k]?) → d.M w' base oki x' c' → Kd.S d e w' base ok (.slice (some ⟨g, 0, none⟩) n cap) (xs.set i x') := by
 obtain ⟨f, hok, inner, ho, hr⟩ := h
 rw [List.length_zipIdx] at ho
 have hn : n = xs.length := by
  rcases ho.2 with ⟨hv, h0⟩ | ⟨g', cap', cur, hv, _⟩
  ·cases hv
  ·injection hv
 subst hn
 obtain ⟨cur, h1, h2, h3, h4, h5⟩ := ZeY (sz := d.sz) ho (List.getElem?_eq_some_iff.1 hi).1
 have gne : ∀ k, some k ≠ (Value.slice (some ⟨g, 0, none⟩) xs.length cap).ownBlock → k ≠ g := fun k hk he => hk (by rw [he]; rfl)
 refine ⟨cur, (inner.drop (i * d.sz)).take d.sz, fun k => (ok k ∧ some k ≠ (Value.slice (some ⟨g, 0, none⟩) xs.length cap).ownBlock) ∧ f k = i, by rw [← h4]; exact h1, h2, hok g rfl, by rw [List.length_take]; omega, hr.2 i (x, i) (Kd.zip_at hi), fun k hk => ⟨hk.1.1, gne k hk.1.2⟩, fun w' x' c' hh hsame hM => ?_⟩
 obtain ⟨inner', g1, g2, g3⟩ := h5 w' c' (d.K_len (d.K_of_M hM)) hh
 refine ⟨f, hok, inner', by rw [List.length_zipIdx, List.length_set]; exact g1, by rw [List.length_zipIdx, List.length_set]; exact g1.1, fun j p hj => ?_⟩
 rw [List.getElem?_zipIdx, Nat.zero_add] at hj
 obtain ⟨q, hq, rfl⟩ := Option.map_eq_some_iff.1 hj
 by_cases he : j = i
 ·subst he
  rw [List.getElem?_set_self (List.getElem?_eq_some_iff.1 hi).1] at hq
  injection hq with hq
  subst hq
  show d.M w' base _ x' ((inner'.drop (j * d.sz)).take d.sz)
  rw [g2]
  exact hM
 ·rw [List.getElem?_set_ne (Ne.symm he)] at hq
  show d.M w' base _ q ((inner'.drop (j * d.sz)).take d.sz)
  rw [g3 j (List.getElem?_eq_some_iff.1 hq).1 he]
  exact Kd.M_step (hr.2 j (q, j) (Kd.zip_at hq)) (fun k hk hlt => hsame k hk.1.1 (gne k hk.1.2) (fun h2 => he (hk.2.symm.trans h2.2)) hlt)
def live : Slot → Bool
 | .dead => false
 | _ => true
def Zgx : Slot → Prop
 | .el .. => False
 | _ => True
def Zfd (R : Nat → Row) (d : Nat → Nat) (R' : Nat → Row) (d' : Nat → Nat) (t : Tm) : List (Nat × Slot) → Prop
 | [] => True
 | (i, s) :: l => (live (t.get i) = true ∧ s.val R' d' = (t.get i).val R d ∧ Zgx s) ∧ Zfd R d R' d' t l
theorem ZcP {R : Nat → Row} {d : Nat → Nat} {R' : Nat → Row} {d' : Nat → Nat} {t : Tm} : ∀ {l : List (Nat × Slot)}, Zfd R d R' d' t l → ∀ p ∈ l, live (t.get p.1) = true ∧ p.2.val R' d' = (t.get p.1).val R d ∧ Zgx p.2
 | [], _, p, h => by cases h
 | (i, s) :: l, h, p, hp => by
   rcases List.mem_cons.1 hp with rfl | hp
   ·exact h.1
   ·exact ZcP h.2 p hp
theorem Rel.carry {R : Nat → Row} {d : Nat → Nat} {st : St} {a : Act} (hR : Rel R d st a) {R' : Nat → Row} {d' : Nat → Nat} {dep n : Nat} {l : List (Nat × Slot)} {b : List (List AV)} (h1 : st.n = n) (h2 : Zfd R d R' d' st.t l) (hb : ptrB b.length l = true) : Rel R' d' (St.of dep n l b) a := by
 have key : ∀ i, ((Tm.full dep).puts l).get i = .dead ∨ (∃ p ∈ l, p.1 = i ∧ p.2 = ((Tm.full dep).puts l).get i) := by
  intro i
  rcases ZcW l (Tm.full dep) i with h | h | h
  ·exact .inl h
  ·exact .inr h
  ·exact .inl (by rw [h, Zcb])
 have al := ZcP h2
 refine ⟨hR.defers, by rw [hR.size, h1]; rfl, fun i => ?_, fun i b' o h => ?_, fun i r k o h => ?_⟩
 ·rcases key i with h | ⟨p, hp, h3, h4⟩
  ·exact .inl h
  ·refine .inr ?_
   obtain ⟨g1, g2, -⟩ := al p hp
   rcases hR.slot p.1 with h5 | h5
   ·rw [h5] at g1; cases g1
   ·rw [h3] at h5 g2
    rw [h5, ← g2]
    show some _ = some ((((Tm.full dep).puts l).get i).val R' d')
    rw [h4]
 ·rcases key i with h' | ⟨p, hp, h3, h4⟩
  ·exact absurd (h.symm.trans h') (by simp)
  ·exact ZaJ _ _ hb p hp b' o (h4.trans h)
 ·rcases key i with h' | ⟨p, hp, h3, h4⟩
  ·exact absurd (h.symm.trans h') (by simp)
  ·have := (al p hp).2.2
   rw [h4.trans h] at this
   exact this.elim
section
variable {P : Program} {Qf : Exit → Act → World → Prop} {X : Cx} {d1 : Nat → Nat} {n1 : Nat} {w1 : World} {d : Nat → Nat} {st : St} {a : Act} {w : World}
theorem Zfe (hP : ∀ c a w dst v, Qf (.panic c) (a.put dst v) w → Qf (.panic c) a w) (hm : P.follows .mixedOrders = true) {all : Array Oper} {o : Oper} {l : List Oper} {K : List KI}
 (hK : KOk K) (hR : Rel X.R d st a) (hg : Zbw all st o = .known true) {c : Call} (ho : o.op = .call c) {f : FuncId} (hc : c.callee = .value (.func f))
 (hn : ∃ fn, P.funcs[f]? = some fn ∧ (fn.name == "runtime.NumGoroutine") = false ∧ fn.body.isSome = true) {L : List AV} (hl : evL st c.args.toList = some L) {Post : Ending → World → Prop} (hcall : Calls P f (AV.vs X.R L).toArray w Post)
 (hpost : ∀ e w', Post e w' → ∃ (v : Value) (st1 : St) (X' : Cx) (d' : Nat → Nat) (n' n : Nat) (st' : St), e = .returned v ∧ putX st o.dst (.v (.raw v)) st.b = some st1 ∧ CxOk P X' d' n' w' ∧ (∀ a', Rel X.R d st1 a' → Rel X'.R d' st' a') ∧ Zak X'.R d' n' w' d' st'.b w' ∧ (seg X' n (.ops all l :: K) st').holds (Owes P X' d' n' w' Qf)) :
 wpK P Qf (.ops all (o :: l) :: K) .normal a w := by
 obtain ⟨fn, hf, hnm, hbd⟩ := hn
 show wpList P all (wpK P Qf K) (o :: l) a w
 unfold wpList
 rw [ZaU hR hg, if_pos rfl]
 refine .inl ?_
 unfold Oper.wp
 rw [Zba ho hc hf hnm hbd w, Oper.upon_enter]
 have e : c.args.map a.eval = (AV.vs X.R L).toArray := by
  rw [← Zbv hR hl, ← Array.toList_map, Array.toArray_toList]
 rw [e]
 refine hcall.mono fun e w' hq => ?_
 obtain ⟨v, st1, X', d', n', n, st', rfl, hp, hX', hcar, hr', hh⟩ := hpost e w' hq
 obtain ⟨h1, -⟩ := hR.put (d' := d) (fun _ _ => rfl) (Nat.le_refl _) (SOk.v ..) hp
 exact ZaS hP hm hX' (fun l hl hk d a w => hl hk d a w) n (.ops all l :: K) st' d' _ w' hK (hcar _ h1) hr' hh
theorem Zak.lt {R : Nat → Row} {b : List (List AV)} (hr : Zak R d1 n1 w1 d b w) {i : Nat} (hi : i < b.length) : d i < w.heap.size := by
 obtain ⟨ty, -, h⟩ := hr.box i _ (List.getElem?_eq_getElem hi)
 exact (Array.getElem?_eq_some_iff.1 h).1
theorem Zak.comp {R : Nat → Row} {d' : Nat → Nat} {b0 b : List (List AV)} {w' : World} (hr : Zak R d1 n1 w1 d b0 w) (h : Zak R d b0.length w d' b w') : Zak R d1 n1 w1 d' b w' :=
 ⟨h.box, h.inj, Nat.le_trans hr.len h.len, fun i hi => (h.old i (Nat.lt_of_lt_of_le hi hr.len)).trans (hr.old i hi), fun i h1 h2 => if hi : i < b0.length then (by rw [h.old i hi]; exact hr.new i h1 hi) else Nat.le_trans hr.upd.size (h.new i (Nat.le_of_not_lt hi) h2), hr.upd.trans h.upd (fun x ⟨i, hi, hx⟩ hlt => by
   by_cases hn : i < n1
   ·exact ⟨i, hn, hx.trans (hr.old i hn)⟩
   ·have := hr.new i (Nat.le_of_not_lt hn) hi
    omega)⟩
theorem Zak.rows {rs rs' : List Row} {b : List (List AV)} (hr : Zak (ZZ rs) d1 n1 w1 d b w) (hv : ∀ cs ∈ b, AV.vs (ZZ rs') cs = AV.vs (ZZ rs) cs) : Zak (ZZ rs') d1 n1 w1 d b w :=
 ⟨fun i cs hi => by
   obtain ⟨ty, h1, h2⟩ := hr.box i cs hi
   refine ⟨ty, fun h => ?_, ?_⟩
   ·rw [Zcm] at h
    cases h
   ·rw [(ZaH rs' i).1, (ZaH rs' i).2.1, hv cs (List.mem_of_getElem? hi)]
    rw [(ZaH rs i).1, (ZaH rs i).2.1] at h2
    exact h2, hr.inj, hr.len, hr.old, hr.new, hr.upd⟩
theorem Zav {fn : Func} {Post : Ending → World → Prop} (hX : CxOk P X d1 n1 w1) {u : AV} (hu : Zbb X st fn.results.toList = some u) (h : ∀ d w', Zak X.R d1 n1 w1 d st.b w' → Post (.returned (u.v X.R)) w') : Owes P X d1 n1 w1 (bodyPost P fn Post) (.fin st) := by
 intro _ d a w' hR hr
 have e := Za6 hX hR hr hu
 have : a.defers = [] ∧ ∃ v, (results fn a.tmps).run P w' = .ok v w' ∧ Post (.returned v) w' := ⟨hR.defers, _, e, h d w' hr⟩
 exact ⟨this, this⟩
theorem ZaZ (hm : P.follows .mixedOrders = true) {fn : Func} {Post0 : Ending → World → Prop} {all : Array Oper} {o : Oper} {l : List Oper} {K : List KI}
 (hg : Zbw all st o = .known true) {c : Call} (ho : o.op = .call c) {f : FuncId} (hc : c.callee = .value (.func f))
 (hn : ∃ fn, P.funcs[f]? = some fn ∧ (fn.name == "runtime.NumGoroutine") = false ∧ fn.body.isSome = true) {L : List AV} (hl : evL st c.args.toList = some L)
 (h : ∀ d w, Zak X.R d1 n1 w1 d st.b w → ∃ Post, Calls P f (AV.vs X.R L).toArray w Post ∧ ∀ e w', Post e w' → ∃ (v : Value) (st1 : St) (X' : Cx) (d' : Nat → Nat) (n' n : Nat) (st' : St), e = .returned v ∧ putX st o.dst (.v (.raw v)) st.b = some st1 ∧ CxOk P X' d' n' w' ∧ (∀ a', Rel X.R d st1 a' → Rel X'.R d' st' a') ∧ Zak X'.R d' n' w' d' st'.b w' ∧ (seg X' n (.ops all l :: K) st').holds (Owes P X' d' n' w' (bodyPost P fn Post0))) :
 Owes P X d1 n1 w1 (bodyPost P fn Post0) (.stop (.ops all (o :: l) :: K) st) := by
 intro hk d a w hR hr
 obtain ⟨Post, h1, h2⟩ := h d w hr
 exact Zfe Zag hm hk hR hg ho hc hn hl h1 h2
theorem Zaf (hm : P.follows .mixedOrders = true) (hX : CxOk P X d1 n1 w1) {fn : Func} {Post0 : Ending → World → Prop} {all : Array Oper} {o : Oper} {l : List Oper} {K : List KI}
 (hg : Zbw all st o = .known true) {c : Call} (ho : o.op = .call c) {f : FuncId} (hc : c.callee = .value (.func f))
 (hn : ∃ fn, P.funcs[f]? = some fn ∧ (fn.name == "runtime.NumGoroutine") = false ∧ fn.body.isSome = true) {L : List AV} (hl : evL st c.args.toList = some L)
 (h : ∀ d w, Zak X.R d1 n1 w1 d st.b w → ∃ Post, Calls P f (AV.vs X.R L).toArray w Post ∧ ∀ e w', Post e w' → ∃ y n st', e = .returned (y.v X.R) ∧ Below w.heap.size w w' ∧ putX st o.dst (.v y) st.b = some st' ∧ (seg X n (.ops all l :: K) st').holds (Owes P X d st.b.length w' (bodyPost P fn Post0))) :
 Owes P X d1 n1 w1 (bodyPost P fn Post0) (.stop (.ops all (o :: l) :: K) st) := by
 intro hk d a w hR hr
 obtain ⟨Post, h1, h2⟩ := h d w hr
 exact ZdC Zag hm hX hk hR hr hg ho hc hn hl h1 h2
end
def clV (c : S54) : List Value := [.int .i64 c.f0, .int .i64 c.f1, .int .i64 c.f2, .int .i64 c.f3, .int .i64 c.f4, .int .i64 c.f5, .int .i64 c.f6, .int .i64 c.f7, .int .i64 c.f8, .bool c.f9]
structure Pl where
 g : Nat
 gC : Nat
 gB : Nat
 gE : Nat
 cap : Nat
 cC : Nat
 cB : Nat
 cE : Nat
 pT : List Value
 qT : List Value
 pC : List Value
 qC : List Value
 pB : List Value
 qB : List Value
 pE : List Value
 qE : List Value
def Pl.th (p : Pl) (t : S52) (a : Int) : List Value := [.slice (some ⟨p.gC, 0, none⟩) t.f0.length p.cC, .int .i64 a, .slice (some ⟨p.gB, 0, none⟩) t.f2.length p.cB, .slice (some ⟨p.gE, 0, none⟩) t.f3.length p.cE]
structure Held (p : Pl) (w : World) (t : S52) (a : Int) (c : S54) (b e : Int) : Prop where
 T : w.heap[p.g]? = some (.cells (p.pT ++ (p.th t a ++ p.qT)).toArray 52 (0, 0))
 C : w.heap[p.gC]? = some (.cells (p.pC ++ (clV c ++ p.qC)).toArray 54 (0, 0))
 B : w.heap[p.gB]? = some (.cells (p.pB ++ ([Value.int .i64 b] ++ p.qB)).toArray 3 (0, 0))
 E : w.heap[p.gE]? = some (.cells (p.pE ++ ([Value.int .i64 e] ++ p.qE)).toArray 3 (0, 0))
structure Lent (p : Pl) (w : World) (base : Nat) (ok : Nat → Prop) (v : Value) (l : List S52) (k j : Nat) (t : S52) (c : S54) (b e : Int) : Prop where
 val : v = .slice (some ⟨p.g, 0, none⟩) l.length p.cap
 held : Held p w t t.f1 c b e
 pT : p.pT.length = k * 4
 pC : p.pC.length = j * 10
 pB : p.pB.length = j * 1
 pE : p.pE.length = j * 1
 ge : base ≤ p.g ∧ base ≤ p.gC ∧ base ≤ p.gB ∧ base ≤ p.gE
 oks : ok p.g ∧ ok p.gC ∧ ok p.gB ∧ ok p.gE
 ne : p.g ≠ p.gC ∧ p.g ≠ p.gB ∧ p.g ≠ p.gE ∧ p.gC ≠ p.gB ∧ p.gC ≠ p.gE ∧ p.gB ≠ p.gE
 rC : ∀ w', w'.heap[p.gC]? = w.heap[p.gC]? → k54.R 54 w' base ok (.slice (some ⟨p.gC, 0, none⟩) t.f0.length p.cC) t.f0
 back : ∀ (w' : World) (a' : Int) (c' : S54) (b' e' : Int), Held p w' t a' c' b' e' → (∀ k, ok k → k ≠ p.g → k ≠ p.gC → k ≠ p.gB → k ≠ p.gE → k < w.heap.size → w'.heap[k]? = w.heap[k]?) → Kd.S k52 52 w' base ok v (l.set k ⟨t.f0.set j c', a', t.f2.set j b', t.f3.set j e'⟩)
theorem ZbL {w : World} {g h : Nat} {a b : Array Value} {s t : Nat} (h1 : w.heap[g]? = some (.cells a s (0, 0))) (h2 : w.heap[h]? = some (.cells b t (0, 0))) (hst : s ≠ t) : g ≠ h := by
 rintro rfl
 rw [h1] at h2
 injection h2 with h2
 injection h2 with _ h2
 exact hst h2
theorem lend {w : World} {base : Nat} {ok : Nat → Prop} {v : Value} {l : List S52} {k j : Nat} {t : S52} {c : S54} {b e : Int} (h : Kd.S k52 52 w base ok v l) (hk : l[k]? = some t) (hc : t.f0[j]? = some c) (hb : t.f2[j]? = some b) (he : t.f3[j]? = some e) : ∃ p, Lent p w base ok v l k j t c b e := by
 have pos : ∀ {α : Type} {xs : List α} {i : Nat} {x : α}, xs[i]? = some x → 0 < xs.length := fun h => by
  have := (List.getElem?_eq_some_iff.1 h).1
  omega
 obtain ⟨g, cap, rfl, hg, -, -⟩ := Kd.S_form h (pos hk)
 obtain ⟨cur, cs, oki, h1, h2, h3, h4, hM, hoki, hback⟩ := ZgH h hk
 obtain ⟨v0, v2, v3, rfl, r0, r2, r3, hap⟩ := k52_openA hM
 obtain ⟨gC, cC, rfl, -, -, -⟩ := Kd.R_form r0 (pos hc)
 obtain ⟨gB, cB, rfl, -, -, -⟩ := Kd.R_form r2 (pos hb)
 obtain ⟨gE, cE, rfl, -, -, -⟩ := Kd.R_form r3 (pos he)
 obtain ⟨cuC, cC', C1, C2, C3, C4, CM, Cback⟩ := ZdX (d := k54) rfl r0 hc
 obtain ⟨cuB, cB', B1, B2, B3, B4, BM, Bback⟩ := ZdX (d := Kd.int .i64) rfl r2 hb
 obtain ⟨cuE, cE', E1, E2, E3, E4, EM, Eback⟩ := ZdX (d := Kd.int .i64) rfl r3 he
 obtain rfl := k54_openM CM
 obtain rfl : cB' = [Value.int .i64 b] := BM
 obtain rfl : cE' = [Value.int .i64 e] := EM
 refine ⟨⟨g, gC, gB, gE, cap, cC, cB, cE, cur.take (k * 4), cur.drop (k * 4 + 4), cuC.take (j * 10), cuC.drop (j * 10 + 10), cuB.take (j * 1), cuB.drop (j * 1 + 1), cuE.take (j * 1), cuE.drop (j * 1 + 1)⟩, rfl, ⟨h1, C1, B1, E1⟩, h4, C4, B4, E4, ⟨h2, C2, B2, E2⟩, ⟨h3, (hoki _ C3).1, (hoki _ B3).1, (hoki _ E3).1⟩, ⟨(hoki _ C3).2.symm, (hoki _ B3).2.symm, (hoki _ E3).2.symm, ZbL C1 B1 (by decide), ZbL C1 E1 (by decide), fun he => hap gB rfl (congrArg some (Eq.symm he))⟩, fun w' hw => ?_, fun w' a' c' b' e' hh hsame => ?_⟩
 ·exact Kd.R_mono (Kd.R_move (Kd.R_tight rfl r0) (fun k hk => by
   injection hk with hk
   rw [hk]
   exact hw)) (fun k hk => by
   injection hk with hk
   rw [hk]
   exact (hoki _ C3).1)
 ·refine hback w' _ _ hh.T (fun q q1 q2 q3 q4 => hsame q q1 q2 (fun h => q3 (by rw [h]; exact C3)) (fun h => q3 (by rw [h]; exact B3)) (fun h => q3 (by rw [h]; exact E3)) q4) (k52_mkM w' base oki ⟨t.f0.set j c', a', t.f2.set j b', t.f3.set j e'⟩ (Cback w' c' _ hh.C (k54_mkM w' base _ c')) (Bback w' b' _ hh.B rfl) (Eback w' e' _ hh.E rfl) hap)
end Go.Proofs.YtgghglocfdcegaaGreat.Xec
namespace Go.Proofs.YtgghglocfdcegaaGreat.Xec
open Go Go.RowKit Go.Proofs.YtgghglocfdcegaaGreat.PFnExactCrewRun Go.Proofs.YtgghglocfdcegaaGreatW.PrintWords
set_option linter.unusedVariables false
set_option linter.unusedSimpArgs false
set_option maxRecDepth 100000
set_option maxHeartbeats 16000000
def Pop.at (l : Int → S54) (p : Int) : Nat → Int
 | 0 => -1
 | i + 1 => if (i : Int) ≥ p ∨ (l i).f7 ≠ 1 then Pop.at l p i else if (l i).f0 = 2 then (l i).f8 else if (l i).f0 = 1 then -1 else Pop.at l p i
theorem ZdI.walk (A0 : Option Addr) (c0 : Nat) (l0 : List S54) (a1 : Int) (A2 : Option Addr) (n2 c2 : Nat) (A3 : Option Addr) (n3 c3 : Nat) (w : World) (hC : k54.C w A0 l0.length l0) :
 Calls Tryz.prog 42 (AV.vs (ZZ [rowC A0 c0 l0]) [.agg [.sl 0, .int a1, .slc A2 n2 c2, .slc A3 n3 c3]]).toArray w fun e w' => e = .returned (.int .i64 (Pop.at (rd_T54 l0) a1 l0.length)) ∧ Below w.heap.size w w' := by
 have hlen := hC.2.1
 obtain ⟨q, hq⟩ : ∃ q : Nat → Int, ∀ k, q k = Pop.at (rd_T54 l0) a1 (l0.length + 1 - k) := ⟨_, fun _ => rfl⟩
 obtain ⟨j, hj⟩ : ∃ j : Nat → Int, ∀ k, j k = ((l0.length + 1 - k : Nat) : Int) := ⟨_, fun _ => rfl⟩
 obtain ⟨N, hN⟩ : ∃ N, N = l0.length + 1 := ⟨_, rfl⟩
 refine Zbd (X := mkXR std [] [] [rowC A0 c0 l0]) (d1 := fun _ => 0) Tryz.func42 rfl (by kernel_rfl) hm (Zaw rfl ZW Zap (ZaG (ZbB rfl hC))) _ 6 600 (Nat.le_of_ble_eq_true rfl) _ N (by omega)
  (fun k => [(1, .ptr 0 0), (3, .v (.int (q k))), (7, .v (.sl 0)), (8, .v (.int (l0.length : Nat))), (9, .v (.int (j k)))])
  (fun k => [[.sl 0, .int a1, .slc A2 n2 c2, .slc A3 n3 c3]]) (fun k => rfl) (fun _ => True) (fun k => ?_)
 generalize hv : Value.int IntKind.i64 (Pop.at (rd_T54 l0) a1 l0.length) = v
 generalize hO : std = O
 unfold rowC
 generalize hrd : rd_T54 l0 = rd0 at *
 generalize hn : l0.length = n0 at *
 have step : k < N → j (k + 1) < (n0 : Int) → 0 < k ∧ 0 ≤ j (k + 1) ∧ j k = wrap64 (j (k + 1) + 1) ∧ q k = if j (k + 1) ≥ a1 ∨ (rd0 (j (k + 1))).f7 ≠ 1 then q (k + 1) else if (rd0 (j (k + 1))).f0 = 2 then (rd0 (j (k + 1))).f8 else if (rd0 (j (k + 1))).f0 = 1 then -1 else q (k + 1) := by
  intro h1 h2
  rw [hj] at h2
  have e : n0 + 1 - k = (n0 + 1 - (k + 1)) + 1 := by omega
  refine ⟨by omega, by rw [hj]; omega, ?_, ?_⟩
  ·rw [hj, hj, e]
   unfold wrap64
   omega
  ·rw [hq, hq, e, hj]
   rfl
 have last : k < N → ¬ j (k + 1) < (n0 : Int) → q (k + 1) = Pop.at rd0 a1 n0 := by
  intro h1 h2
  rw [hj] at h2
  rw [hq, show n0 + 1 - (k + 1) = n0 by omega]
 have z1 : -1 = q N := by rw [hq, hN, Nat.sub_self]; rfl
 have z2 : 0 = j N := by rw [hj, hN, Nat.sub_self]; rfl
 clear hq hj
 (try cbv)
 repeat' (apply And.intro <;> (try intros) <;> (try cbv))
 all_goals (try (first | exact z1 | exact z2 | rfl | trivial))
 all_goals (subst hv; subst hO; (try dsimp only [std] at *); (try simp only [decide_eq_true_eq, decide_eq_false_iff_not, beq_iff_eq, beq_eq_false_iff_ne, bne_iff_ne, bne_eq_false_iff_eq, ne_eq] at *))
 all_goals (try simp only [Int.ofNat_eq_natCast] at *)
 all_goals by_cases hlt : j (k + 1) < (n0 : Int)
 all_goals first
  | contradiction
  | (rw [last (by assumption) hlt]; done)
  | (obtain ⟨s1, s2, s3, s4⟩ := step (by assumption) hlt
     first
      | exact s1
      | (simp only [Bool.and_eq_true, decide_eq_true_eq]; exact ⟨s2, hlt⟩)
      | (rw [s3]; done)
      | (rw [s4]; simp_all; done)
      | (rw [s4]; simp_all; omega)
      | (simp_all; done))
  | (simp_all; done)
theorem ZdQ.walk (A0 : Option Addr) (c0 : Nat) (l0 : List S54) (a1 : Int) (A2 : Option Addr) (n2 c2 : Nat) (A3 : Option Addr) (n3 c3 : Nat) (w : World) (hC : k54.C w A0 l0.length l0) :
 Calls Tryz.prog 52 (AV.vs (ZZ [rowC A0 c0 l0]) [.agg [.sl 0, .int a1, .slc A2 n2 c2, .slc A3 n3 c3]]).toArray w fun e w' => e = .returned (.int .i64 (Pop.at (rd_T54 l0) a1 l0.length)) ∧ Below w.heap.size w w' := by
 have hlen := hC.2.1
 obtain ⟨q, hq⟩ : ∃ q : Nat → Int, ∀ k, q k = Pop.at (rd_T54 l0) a1 (l0.length + 1 - k) := ⟨_, fun _ => rfl⟩
 obtain ⟨j, hj⟩ : ∃ j : Nat → Int, ∀ k, j k = ((l0.length + 1 - k : Nat) : Int) := ⟨_, fun _ => rfl⟩
 obtain ⟨N, hN⟩ : ∃ N, N = l0.length + 1 := ⟨_, rfl⟩
 refine Zbd (X := mkXR std [] [] [rowC A0 c0 l0]) (d1 := fun _ => 0) Tryz.func52 rfl (by kernel_rfl) hm (Zaw rfl ZW Zap (ZaG (ZbB rfl hC))) _ 6 600 (Nat.le_of_ble_eq_true rfl) _ N (by omega)
  (fun k => [(1, .ptr 0 0), (3, .v (.int (q k))), (7, .v (.sl 0)), (8, .v (.int (l0.length : Nat))), (9, .v (.int (j k)))])
  (fun k => [[.sl 0, .int a1, .slc A2 n2 c2, .slc A3 n3 c3]]) (fun k => rfl) (fun _ => True) (fun k => ?_)
 generalize hv : Value.int IntKind.i64 (Pop.at (rd_T54 l0) a1 l0.length) = v
 generalize hO : std = O
 unfold rowC
 generalize hrd : rd_T54 l0 = rd0 at *
 generalize hn : l0.length = n0 at *
 have step : k < N → j (k + 1) < (n0 : Int) → 0 < k ∧ 0 ≤ j (k + 1) ∧ j k = wrap64 (j (k + 1) + 1) ∧ q k = if j (k + 1) ≥ a1 ∨ (rd0 (j (k + 1))).f7 ≠ 1 then q (k + 1) else if (rd0 (j (k + 1))).f0 = 2 then (rd0 (j (k + 1))).f8 else if (rd0 (j (k + 1))).f0 = 1 then -1 else q (k + 1) := by
  intro h1 h2
  rw [hj] at h2
  have e : n0 + 1 - k = (n0 + 1 - (k + 1)) + 1 := by omega
  refine ⟨by omega, by rw [hj]; omega, ?_, ?_⟩
  ·rw [hj, hj, e]
   unfold wrap64
   omega
  ·rw [hq, hq, e, hj]
   rfl
 have last : k < N → ¬ j (k + 1) < (n0 : Int) → q (k + 1) = Pop.at rd0 a1 n0 := by
  intro h1 h2
  rw [hj] at h2
  rw [hq, show n0 + 1 - (k + 1) = n0 by omega]
 have z1 : -1 = q N := by rw [hq, hN, Nat.sub_self]; rfl
 have z2 : 0 = j N := by rw [hj, hN, Nat.sub_self]; rfl
 clear hq hj
 (try cbv)
 repeat' (apply And.intro <;> (try intros) <;> (try cbv))
 all_goals (try (first | exact z1 | exact z2 | rfl | trivial))
 all_goals (subst hv; subst hO; (try dsimp only [std] at *); (try simp only [decide_eq_true_eq, decide_eq_false_iff_not, beq_iff_eq, beq_eq_false_iff_ne, bne_iff_ne, bne_eq_false_iff_eq, ne_eq] at *))
 all_goals (try simp only [Int.ofNat_eq_natCast] at *)
 all_goals by_cases hlt : j (k + 1) < (n0 : Int)
 all_goals first
  | contradiction
  | (rw [last (by assumption) hlt]; done)
  | (obtain ⟨s1, s2, s3, s4⟩ := step (by assumption) hlt
     first
      | exact s1
      | (simp only [Bool.and_eq_true, decide_eq_true_eq]; exact ⟨s2, hlt⟩)
      | (rw [s3]; done)
      | (rw [s4]; simp_all; done)
      | (rw [s4]; simp_all; omega)
      | (simp_all; done))
  | (simp_all; done)
end Go.Proofs.YtgghglocfdcegaaGreat.Xec
