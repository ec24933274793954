/- Part O of the proof of FnExactCrewStep and FnExactCrewRun (wip/xec, pack.py). No condition. -/
import Derived.Test.YtgghglocfdcegaaGreatVCrew
import Derived.Great.BuildSlice
import Derived.Test.YtgghglocfdcegaaGreatKI
namespace Go.Proofs.YtgghglocfdcegaaGreat.Xec
open Go Go.RowKit Go.Proofs.YtgghglocfdcegaaGreat.PFnExactCrewRun Go.Proofs.YtgghglocfdcegaaGreatW.PrintWords Go.Proofs.YtgghglocfdcegaaGreatW.PrintLast
set_option linter.unusedVariables false
set_option linter.unusedSimpArgs false
section
variable {P : Program} {Q : Exit → Act → World → Prop} {X : Cx} {d1 : Nat → Nat} {n1 : Nat} {w1 : World} {d : Nat → Nat} {st st' : St} {a : Act} {w : World} {ops : Array Oper} {o : Oper} {C : World → Prop} {fuel : Nat} {li li' : Array Bool} {i : Nat} {K : Act → World → Prop} {D : List Nat}
theorem Zda {H : List Nat} {r : List (Nat × Oper)} (hs : Za7 ops H D ((i, o) :: r) li = true) (hH : H.contains i = true) : li = Zfa ops.size ((i, o) :: r) := by
 simp only [Za7, hH, if_true] at hs
 exact eq_of_beq hs
theorem Za1 (hg : o.guard = none) (hX : CxOk P X d1 n1 w1) (hR : Rel X.R d st a) (hr : Zak X.R d1 n1 w1 d st.b w) {s : Slot} {b : List (List AV)} (hex : exOp X o st = .ok s b) (hp : putX st o.dst s b = some st') (h : ∀ d' a' w', (∀ i, i < st.b.length → d' i = d i) → Rel X.R d' st' a' → Zak X.R d1 n1 w1 d' st'.b w' → K a' w') :
 if Region.wanted o (yielded ops a.tmps) = true then Oper.wp P o a w K Q else K (a.put o.dst undef) w := by
 rw [if_pos (by unfold Region.wanted; rw [hg])]
 refine Zcu hX hR hr (.inl hex) (fun d' w' hd hr' hl hso => ?_)
 obtain ⟨h1, h2⟩ := hR.put hd hl hso hp
 exact h d' _ w' hd h1 (h2 ▸ hr')
theorem Zbl (hg : o.guard = none) (hR : Rel X.R d st a) {c : Call} (ho : o.op = .call c) {f : FuncId} (hc : c.callee = .value (.func f))
 (hn : ∃ fn, P.funcs[f]? = some fn ∧ (fn.name == "runtime.NumGoroutine") = false ∧ fn.body.isSome = true) {L : List AV} (hl : evL st c.args.toList = some L) {Post : Ending → World → Prop} (hcall : Calls P f (AV.vs X.R L).toArray w Post)
 (h : ∀ e w', Post e w' → ∃ v, e = .returned v ∧ K (a.put o.dst v) w') : if Region.wanted o (yielded ops a.tmps) = true then Oper.wp P o a w K Q else K (a.put o.dst undef) w := by
 obtain ⟨fn, hf, hnm, hbd⟩ := hn
 rw [if_pos (by unfold Region.wanted; rw [hg])]
 unfold Oper.wp
 rw [Zba ho hc hf hnm hbd w, Oper.upon_enter]
 have e : c.args.map a.eval = (AV.vs X.R L).toArray := by
  rw [← Zbv hR hl, ← Array.toList_map, Array.toArray_toList]
 rw [e]
 refine hcall.mono fun e w' hq => ?_
 obtain ⟨v, rfl, hk⟩ := h e w' hq
 exact hk
theorem Zbi (hi : ops[i]? = some o) (hg : o.guard = none) (hc : takeB .any ops D li (li.setIfInBounds i true) i = true) (hX : CxOk P X d1 n1 w1) (hR : Rel X.R d st a) (hq : qOp X o st ≠ .dead) (hfn : isFn o = false) (hP : ∀ c a w dst v, Q (.panic c) (a.put dst v) w → Q (.panic c) a w) (hC : ∀ w, C w → Zak X.R d1 n1 w1 d st.b w) (hw : C w) (hp : putX st o.dst (qOp X o st) st.b = some st') (h : ∀ a', Rel X.R d st' a' → wpAnyLast P .any ops Q C D fuel (li.setIfInBounds i true) a' w) : wpAnyLast P .any ops Q C D (fuel + 1) li a w := by
 refine take_ (v := (qOp X o st).val X.R d) _ hi rfl hc (fun c a w h => hP c a w _ _ h) (.inl ⟨by unfold Region.wanted; rw [hg], fun w' hw' => ?_⟩) hw rfl (h _ (hR.put (d' := d) (fun _ _ => rfl) (Nat.le_refl _) (Zbg hX hR hq).2 hp).1)
 have := (Zbg hX hR (o := o) hq).1 w' (hC w' hw')
 unfold QAt at this
 rw [hfn, if_neg (by simp)] at this
 exact this
theorem Zb0 {s : Slot} (h : live s = true) : s ≠ .dead := fun he => by
 rw [he] at h
 cases h
theorem ZaO : ∀ (b : List (List AV)) (i : Nat), Zay [] i b = b
 | [], _ => rfl
 | c :: b, i => by simp [Zay, ZaO b]
theorem ZaP {oi : Oper} (hi : ops[i]? = some oi) (hc : readyB .any ops li (li.setIfInBounds i true) i = true) (hd : D.contains i = false) (h : ∀ K : Act → World → Prop, (∀ a' w', C w' → wpAnyLast P .any ops Q C D fuel (li.setIfInBounds i true) a' w' → K a' w') → if Region.wanted oi (yielded ops a.tmps) = true then Oper.wp P oi a w K Q else K (a.put oi.dst undef) w) : wpAnyLast P .any ops Q C D (fuel + 1) li a w :=
 one_ _ hi rfl hc (by simpa using hd) fun K hK => h K fun a' w' h1 h2 => hK.out a' w' h1 (fun _ => h2)
theorem Zbk {oi : Oper} (hi : ops[i]? = some oi) (hc : readyB .any ops li (li.setIfInBounds i true) i = true) (hd : D.contains i = true) (h : ∀ K : Act → World → Prop, (∀ a' w', wpAnyLast P .any ops Q C D fuel (li.setIfInBounds i true) a' w' → K a' w') → if Region.wanted oi (yielded ops a.tmps) = true then Oper.wp P oi a w K Q else K (a.put oi.dst undef) w) : wpAnyLast P .any ops Q C D (fuel + 1) li a w :=
 last_ _ hi rfl hc (by simpa using hd) fun K hK => h K fun a' w' h2 => hK.out a' w' h2
theorem Zel {oi oj : Oper} {j : Nat} (hi : ops[i]? = some oi) (hj : ops[j]? = some oj) (hc : (Region.ready .any ops li == [i, j]) = true) (hdi : D.contains i = false) (hdj : D.contains j = false)
 (h1 : ∀ K : Act → World → Prop, (∀ a' w', C w' → wpAnyLast P .any ops Q C D fuel (li.setIfInBounds i true) a' w' → K a' w') → if Region.wanted oi (yielded ops a.tmps) = true then Oper.wp P oi a w K Q else K (a.put oi.dst undef) w)
 (h2 : ∀ K : Act → World → Prop, (∀ a' w', C w' → wpAnyLast P .any ops Q C D fuel (li.setIfInBounds j true) a' w' → K a' w') → if Region.wanted oj (yielded ops a.tmps) = true then Oper.wp P oj a w K Q else K (a.put oj.dst undef) w) : wpAnyLast P .any ops Q C D (fuel + 1) li a w :=
 two_ _ _ hi hj rfl rfl (by simp [hc]) (by simpa using hdi) (by simpa using hdj) (fun K hK => h1 K fun a' w' g1 g2 => hK.out a' w' g1 (fun _ => g2)) (fun K hK => h2 K fun a' w' g1 g2 => hK.out a' w' g1 (fun _ => g2))
theorem Zak.same {R : Nat → Row} {b b' : List (List AV)} (hr : Zak R d1 n1 w1 d b w) (h : b'.map (AV.vs R) = b.map (AV.vs R)) : Zak R d1 n1 w1 d b' w := by
 have hl : b'.length = b.length := by simpa using congrArg List.length h
 refine ⟨fun i cs hi => ?_, hl ▸ hr.inj, hl ▸ hr.len, hr.old, hl ▸ hr.new, hr.upd⟩
 have h1 : (b.map (AV.vs R))[i]? = some (AV.vs R cs) := by rw [← h, List.getElem?_map, hi]; rfl
 rw [List.getElem?_map] at h1
 obtain ⟨cs', h2, h3⟩ := Option.map_eq_some_iff.1 h1
 rw [← h3]
 exact hr.box i cs' h2
theorem Zak.head {R : Nat → Row} {b r : List (List AV)} (hr : Zak R d1 n1 w1 d (b ++ r) w) : Zak R d b.length w d b w :=
 ⟨fun i cs h => hr.box i cs (by rw [List.getElem?_append_left (List.getElem?_eq_some_iff.1 h).1]; exact h), fun i j hi hj => hr.inj i j (by simp; omega) (by simp; omega), Nat.le_refl _, fun _ _ => rfl, fun i h1 h2 => by omega, Upd.refl _ _⟩
theorem Zak.root' {R : Nat → Row} {b : List (List AV)} {w0 : World} (hr : Zak R d n1 w1 d b w) (hb : Below w0.heap.size w0 w1) (hge : ∀ i, i < n1 → w0.heap.size ≤ d i) : Zak R (fun _ => 0) 0 w0 d b w :=
 ⟨hr.box, hr.inj, Nat.zero_le _, fun i hi => absurd hi (Nat.not_lt_zero _), fun i _ hi => if h : i < n1 then hge i h else Nat.le_trans hb.size (hr.new i (Nat.le_of_not_lt h) hi), ⟨hr.upd.os.trans hb.os, hr.upd.tape.trans hb.tape, hr.upd.output.trans hb.output, Nat.le_trans hb.size hr.upd.size, fun k hk _ => (hr.upd.block k (Nat.lt_of_lt_of_le hk hb.size) (fun ⟨i, hi, he⟩ => by have := hge i hi; omega)).trans (hb.block k hk)⟩⟩
theorem Zak.root {R : Nat → Row} {b : List (List AV)} {w0 : World} (hr : Zak R d1 n1 w1 d b w) (hb : Below w0.heap.size w0 w) (hge : ∀ i, i < b.length → w0.heap.size ≤ d i) : Zak R (fun _ => 0) 0 w0 d b w :=
 ⟨hr.box, hr.inj, Nat.zero_le _, fun i hi => absurd hi (Nat.not_lt_zero _), fun i _ hi => hge i hi, ⟨hb.os, hb.tape, hb.output, hb.size, fun k hk _ => hb.block k hk⟩⟩
end
theorem ZbG {P : Program} {α : Type} (d : Kd α) {Rr : α → List Value → Prop} {W : World} (base : Nat) (t e ty : TypeId) (z : Value) (bytes : Nat)
 (ht : P.underlying t = some (.slice e)) (hinfo : (P.info? e).map (fun i => (i.zero, i.size, i.bytes)) = some (some z, d.sz, bytes)) (hz : z.cells.size = d.sz) (hs0 : 0 < d.sz) (hb0 : 0 < bytes)
 (v : Value) (ys : List α) (A : Option Addr) (m c : Nat) (ok : Nat → Prop) (hv : v = .slice none 0 0 ∨ ∃ g, v = .slice (some ⟨g, 0, none⟩) 0 0)
 (HO : d.R e W base ok v []) (HR : ReadsRow Rr d.sz W A m ys) (hKM : ∀ w base ok x cs, Rr x cs → d.M w base ok x cs) (hfresh : ∀ k, W.heap.size ≤ k → ok k) (hbase : base ≤ W.heap.size) (hl : m * bytes ≤ 140737488355328) :
 ∃ v1 w1, (Builtin.append_ #[t, t] ty #[v, .slice A m c]).run P W = .ok v1 w1 ∧ d.R e w1 base ok v1 ys ∧ Below W.heap.size W w1 ∧ (v1.ownBlock = v.ownBlock ∨ ∃ b, v1.ownBlock = some b ∧ W.heap.size ≤ b) := by
 obtain ⟨i0, hi, hzz⟩ := Option.map_eq_some_iff.1 hinfo
 simp only [Prod.mk.injEq] at hzz
 obtain ⟨hz0, hz1, hz2⟩ := hzz
 have hm : ys.length = m := HR.1
 have hlen : m ≤ 140737488355328 := Nat.le_trans (Nat.le_mul_of_pos_right _ hb0) hl
 rcases Nat.eq_zero_or_pos m with h0 | h0
 ·subst h0
  obtain rfl : ys = [] := List.eq_nil_of_length_eq_zero hm
  refine ⟨v, W, ?_, HO, Below.refl _ _, .inl rfl⟩
  obtain ⟨hok, inner, hown, hr⟩ := HO
  rcases hown.2 with ⟨rfl, hn⟩ | ⟨g, cap, cur, rfl, _, _, hnc, _⟩
  ·cases A <;> simp [Builtin.append_, run_underlying ht, sizeOf, typeInfo, hi, Builtin.lenOf, Builtin.firstCells, loadCells, loadCellsFrom]
  ·cases A <;> simp [Builtin.append_, run_underlying ht, sizeOf, typeInfo, hi, Builtin.lenOf, Builtin.firstCells, hnc, storeCells, loadCells, loadCellsFrom]
 ·rcases A with _ | ad
  ·obtain ⟨ad, h, _⟩ := HR.2.2 (by omega)
   cases h
  obtain ⟨hok, inner, hown, hr⟩ := HO
  obtain ⟨news, hnr, hnc⟩ := ReadsRow.inner_ HR
  have hnM : Reps (d.M W base (fun _ => False)) d.sz ys news := hnr.imp_ (fun p c hp => hKM _ _ _ p c hp)
  have hone : ∀ u ∈ news, u.oneCell' = true := by
   intro u hu
   obtain ⟨q, hq, rfl⟩ := List.mem_iff_getElem.1 hu
   have hql : q / d.sz < ys.length := by
    rw [Nat.div_lt_iff_lt_mul hs0]
    rw [← hnM.1]
    exact hq
   have hc := hnM.2 (q / d.sz) _ (List.getElem?_eq_getElem hql)
   refine d.K_one (d.K_of_M hc) _ ?_
   rw [List.mem_iff_getElem?]
   refine ⟨q % d.sz, ?_⟩
   rw [List.getElem?_take, if_pos (Nat.mod_lt _ hs0), List.getElem?_drop, Nat.mul_comm, Nat.div_add_mod, List.getElem?_eq_getElem hq]
  obtain ⟨v1, w1, hrun, h2, hg, _, hat⟩ := run_append_own_at (P := P) W base t ty e i0 z d.sz bytes ht hi hz0 hz1 hz2 hz hs0 v 0 inner hown ad m c news (by rw [hnM.1, hm]) hnc hone (by simp only [maxLen]; omega) (by rw [Nat.zero_add]; exact hl) hbase
  have hnil : inner = [] := List.eq_nil_of_length_eq_zero (by rw [hown.1]; simp)
  subst hnil
  have hbel : Below W.heap.size W w1 := by
   rcases hv with rfl | ⟨g, rfl⟩
   ·exact ⟨hg.os, hg.tape, hg.output, hg.size, fun k hk => hg.block k hk (by simp [Value.ownBlock])⟩
   ·have hrun2 := run_append_grow (P := P) W t ty e i0 z ht hi hz0 ⟨g, 0, none⟩ 0 0 [] (by simp) (by simp) ad m c news (by rw [hz1, hnM.1, hm]) hnc (by omega) (by omega) (growslice_fits (by omega) (by rw [hz2, Nat.zero_add]; exact hl))
    rw [hrun] at hrun2
    injection hrun2 with e1 e2
    subst e2
    exact below_alloc (below_drew1 (Below.refl _ _)) _
  have hat' : v1.ownBlock = v.ownBlock ∨ ∃ b, v1.ownBlock = some b ∧ W.heap.size ≤ b := by
   rcases hat with hat | hat
   ·exact .inl hat
   ·exact .inr ⟨_, hat, Nat.le_refl _⟩
  refine ⟨v1, w1, hrun, ⟨fun k hk => ?_, news, by rw [hm]; rw [Nat.zero_add, List.nil_append] at h2; exact h2, hnr.imp_ (fun _ _ hp => hKM _ _ _ _ _ hp)⟩, hbel, hat'⟩
  rcases hat' with hat | ⟨b, hb, hle⟩
  ·exact hok k (hat ▸ hk)
  ·rw [hb] at hk
   injection hk with hk
   exact hfresh k (by omega)
theorem ZeV {R : Nat → Row} {w w' : World} {n : Nat} {d : Nat → Nat} {S : Nat → Prop} {r : Nat} (h : ZaV R S w r) (hb : Below w.heap.size w w') (hge : ∀ i, i < n → w.heap.size ≤ d i) : ZaV R (Bx d n) w' r := by
 intro hwin i hi
 obtain ⟨e1, e2, e3, e4, e5⟩ := h hwin i hi
 refine ⟨e1, fun ⟨j, hj, he⟩ => by have := hge j hj; omega, Nat.lt_of_lt_of_le e3 hb.size, e4, fun q x hq => ?_⟩
 have hc := e5 q x hq
 unfold World.cell? at hc ⊢
 rw [hb.block _ e3]
 exact hc
section
variable {P : Program} {Qf : Exit → Act → World → Prop} {X : Cx} {d1 d2 : Nat → Nat} {n1 n2 : Nat} {w1 w2 : World} {d : Nat → Nat} {st : St} {a : Act} {w : World}
def Zeq (P : Program) (X : Cx) (d1 : Nat → Nat) (n1 : Nat) (w1 : World) (d2 : Nat → Nat) (n2 : Nat) (w2 : World) (d : Nat → Nat) (Qf : Exit → Act → World → Prop) (ops : Array Oper) (K : List KI) (W : List Nat) (b0 : List (List AV)) : Leaf → Prop
 | .stopS _ _ _ _ l s => ∀ li a w, Za7 ops (hand ops.toList) (dsOf ops.toList) l li = true → Rel X.R d s a → Zak X.R d2 n2 w2 d s.b w → wpAnyLast P .any ops (wpK P Qf K) (fun w => ∃ b, Zak X.R d1 n1 w1 d b w ∧ Zay W 0 b = Zay W 0 b0) (dsOf ops.toList) l.length li a w
 | _ => False
theorem Zct (hP : ∀ c a w dst v, Qf (.panic c) (a.put dst v) w → Qf (.panic c) a w) (hm : P.follows .mixedOrders = true) (hX : CxOk P X d1 n1 w1) (hX2 : CxOk P X d2 n2 w2) (h21 : ∀ b w, Zak X.R d2 n2 w2 d b w → Zak X.R d1 n1 w1 d b w) {id : Nat} {ops : Array Oper} {K : List KI} {W : List Nat} (hd : ZaB (.region id ops true) = true) (hst : ops.toList.any isDr = true) (hR : Rel X.R d st a) (hr : Zak X.R d2 n2 w2 d st.b w)
 (h : (segS X (hand ops.toList) (dsOf ops.toList) W (fun _ => .stuck 50) (fun l s => .ret (.stopS ops W 0 K l s)) (ZbP ops.toList) st).holds (Zeq P X d1 n1 w1 d2 n2 w2 d Qf ops K W st.b)) : wpK P Qf (.code (.region id ops true) :: K) .normal a w := by
 show Code.wp P _ _ a w
 refine wp_region_any hm (wpAny_of_last (S := fun w => ∃ b, Zak X.R d1 n1 w1 d b w ∧ Zay W 0 b = Zay W 0 st.b) (ds := dsOf ops.toList) _ _ _ _ ?_)
 simp only [ZaB] at hd
 rw [if_pos hst] at hd
 simp only [Bool.and_eq_true, beq_iff_eq] at hd
 obtain ⟨hlen, hc⟩ := hd
 rw [show ops.size = (ZbP ops.toList).length from hlen.symm]
 rw [show ops.size = (ZbP ops.toList).length from hlen.symm] at hc
 refine Za5 (kont := fun _ => .stuck 50) (mk := fun l s => .ret (.stopS ops W 0 K l s)) (Q := Zeq P X d1 n1 w1 d2 n2 w2 d Qf ops K W st.b) hX hX2 h21 hP (fun d' st' a' w' hR' hr' hh => False.elim hh) (fun l li s a w _ hs hR hr hb hh => hh li a w hs hR hr) (ZbP ops.toList) _ st a _ (fun x hx => ?_) hc hR hr.drawn rfl h
 obtain ⟨-, h2⟩ := ZbZ ops.toList 0 x (ZbN _ _ _ _ hx)
 simpa using h2
end
section
variable {P : Program} {Q : Exit → Act → World → Prop} {a : Act} {w : World} {ops : Array Oper} {o : Oper} {K : Act → World → Prop}
theorem Zbu (hg : o.guard = none) {s x : Operand} {t : TypeId} (ho : o.op = .call { callee := .builtin .append, args := #[s, x], argTypes := #[t, t] }) {v u : Value} (hs : a.eval s = v) (hx : a.eval x = u) {v1 : Value} {w1 : World} (hrun : (Builtin.append_ #[t, t] o.type #[v, u]).run P w = .ok v1 w1) (h : K (a.put o.dst v1) w1) :
 if Region.wanted o (yielded ops a.tmps) = true then Oper.wp P o a w K Q else K (a.put o.dst undef) w := by
 rw [if_pos (by unfold Region.wanted; rw [hg])]
 unfold Oper.wp execOp
 simp only [ho, resolve, invoke, builtin, Sem.run_bind, Sem.run_pure, Result.andThen_ok, List.map_toArray, List.map_cons, List.map_nil, hs, hx, hrun]
 exact h
theorem Zbj (hg : o.guard = none) {t : TypeId} {n : Nat} {parts : Array (Nat × Operand)} (ho : o.op = .buildSlice t n parts) {v1 : Value} {w1 : World} {ps : Array (Nat × Value)} (hps : (parts.map fun (i, x) => (i, a.eval x)) = ps) (hrun : (Instr.buildSlice t n ps).run P w = .ok v1 w1) (h : K (a.put o.dst v1) w1) :
 if Region.wanted o (yielded ops a.tmps) = true then Oper.wp P o a w K Q else K (a.put o.dst undef) w := by
 rw [if_pos (by unfold Region.wanted; rw [hg])]
 subst hps
 unfold Oper.wp execOp
 simp only [ho, Sem.run_bind, hrun, Result.andThen_ok]
 exact h
end
theorem ZcJ (w : World) (v0 v2 v3 : Value) (n : Int) : (Instr.buildSlice 30 1 #[(0, .agg #[v0, .int .i64 n, v2, v3])]).run Tryz.prog w = .ok (.slice (some ⟨w.heap.size, 0, none⟩) 1 1) (w.alloc (.cells #[v0, .int .i64 n, v2, v3] 52)) := by
 obtain ⟨i0, hi, hzz⟩ := Option.map_eq_some_iff.1 info52
 simp only [Prod.mk.injEq] at hzz
 obtain ⟨hz0, hz1, hz2⟩ := hzz
 exact run_buildSlice w 30 52 1 _ _ i0 _ Tryz.underlying30 hi hz0 (by rw [hz1]; decide) (by rw [hz1]; decide) (by rw [hz1]; cbv)
theorem ZbY {P : Program} (w : World) {t e : TypeId} {i : TypeInfo} (ht : P.underlying t = some (.slice e)) (hi : P.info? e = some i) : (Instr.buildSlice t 0 #[]).run P w = .ok (.slice (some ⟨w.heap.size, 0, none⟩) 0 0) (w.alloc (.cells #[] e)) := by
 simp [Instr.buildSlice, run_underlying ht, sizeOf, typeInfo, hi, newRow, Instr.fill]
 rw [show Array.map (fun _ : Nat => (default : Value)) (Array.range 0) = #[] from Array.eq_empty_of_size_eq_zero (by simp)]
theorem Rel.dead {R : Nat → Row} {d : Nat → Nat} {st : St} {a : Act} (hR : Rel R d st a) {i : Nat} (h : st.t.get i = .dead) (v : Value) : Rel R d st (a.put (some i) v) := by
 refine ⟨hR.defers, by show (a.tmps.setIfInBounds i v).size = _; rw [Array.size_setIfInBounds]; exact hR.size, fun j => ?_, hR.ok, hR.okE⟩
 by_cases hj : i = j
 ·exact .inl (hj ▸ h)
 ·refine (hR.slot j).imp id fun hs => ?_
  show (a.tmps.setIfInBounds i v)[j]? = _
  rw [Array.getElem?_setIfInBounds_ne hj]
  exact hs
theorem Rel.add {R : Nat → Row} {d : Nat → Nat} {st : St} {a : Act} (hR : Rel R d st a) {i : Nat} {x : AV} (h : a.tmps[i]? = some (x.v R)) : Rel R d ⟨st.n, st.t.put i (.v x), st.b⟩ a := by
 have key : ∀ j, (st.t.put i (.v x)).get j = .dead ∨ (st.t.put i (.v x)).get j = st.t.get j ∨ (j = i ∧ (st.t.put i (.v x)).get j = .v x) := fun j => by
  rcases Za8 st.t i j (.v x) with e | e
  ·exact .inl e
  ·by_cases hj : i = j
   ·rw [if_pos hj] at e; exact .inr (.inr ⟨hj.symm, e⟩)
   ·rw [if_neg hj] at e; exact .inr (.inl e)
 refine ⟨hR.defers, hR.size, fun j => ?_, fun j b o hj => ?_, fun j r k o hj => ?_⟩
 ·rcases key j with e | e | ⟨rfl, e⟩
  ·exact .inl e
  ·show _ ∨ _ = some (((st.t.put i (.v x)).get j).val R d)
   rw [e]; exact hR.slot j
  ·show _ ∨ _ = some (((st.t.put j (.v x)).get j).val R d)
   rw [e]; exact .inr h
 ·rcases key j with e | e | ⟨rfl, e⟩
  ·cases e.symm.trans hj
  ·exact hR.ok j b o (e ▸ hj)
  ·cases e.symm.trans hj
 ·rcases key j with e | e | ⟨rfl, e⟩
  ·cases e.symm.trans hj
  ·exact hR.okE j r k o (e ▸ hj)
  ·cases e.symm.trans hj
theorem ZcL {a : Act} {i : Nat} {v : Value} (h : i < a.tmps.size) : (a.put (some i) v).tmps[i]? = some v := by
 show (a.tmps.setIfInBounds i v)[i]? = _
 simp [h]
theorem ZaK {a : Act} {i j : Nat} {v u : Value} (hj : i ≠ j) (h : a.tmps[j]? = some u) : (a.put (some i) v).tmps[j]? = some u := by
 show (a.tmps.setIfInBounds i v)[j]? = _
 rw [Array.getElem?_setIfInBounds_ne hj]
 exact h
theorem ZdY {α : Type} (d : Kd α) (e base : Nat) (w : World) (hb : base ≤ w.heap.size) : d.R e (w.alloc (.cells #[] e)) base (fun _ => True) (.slice (some ⟨w.heap.size, 0, none⟩) 0 0) [] :=
 ⟨fun _ _ => trivial, [], ⟨by simp, .inr ⟨w.heap.size, 0, #[], rfl, hb, heap_alloc_new w _, Nat.le_refl _, Nat.zero_le _, by simp, by simp⟩⟩, by simp [Reps]⟩
def sel (c : Bool) (k : Nat) : List Nat := if c then [k] else []
theorem Zgb {c : Bool} {k i : Nat} (h : i ∈ sel c k) : c = true ∧ i = k := by
 unfold sel at h
 split at h
 ·exact ⟨by assumption, by simpa using h⟩
 ·cases h
theorem Zfw {P : Program} {Q : Exit → Act → World → Prop} {ops : Array Oper} {C : World → Prop} {D : List Nat} {fuel : Nat} {li : Array Bool} {a : Act} {w : World} {rs : List Nat} (hr : Region.ready .any ops li = rs) (hne : rs ≠ [])
 (h : ∀ i ∈ rs, ∃ o, ops[i]? = some o ∧ D.contains i = false ∧ ∀ K : Act → World → Prop, (∀ a' w', C w' → wpAnyLast P .any ops Q C D fuel (li.setIfInBounds i true) a' w' → K a' w') → if Region.wanted o (yielded ops a.tmps) = true then Oper.wp P o a w K Q else K (a.put o.dst undef) w) : wpAnyLast P .any ops Q C D (fuel + 1) li a w := by
 refine ⟨fun h0 => absurd (hr.symm.trans h0) hne, fun i hi => ?_⟩
 rw [hr] at hi
 obtain ⟨o, ho, hd, hk⟩ := h i hi
 have := hk (fun a' w' => (i ∉ D → C w → C w') ∧ wpAnyLast P .any ops Q C D fuel (li.setIfInBounds i true) a' w') (fun a' w' h1 h2 => ⟨fun _ _ => h1, h2⟩)
 unfold wpOp
 rw [ho]
 by_cases hw : Region.wanted o (yielded ops a.tmps) = true
 ·simp only [hw, if_true] at this ⊢
  exact .inl this
 ·simp only [hw, if_false] at this ⊢
  exact this
end Go.Proofs.YtgghglocfdcegaaGreat.Xec
namespace Go.Proofs.YtgghglocfdcegaaGreat.Xec
open Go Go.RowKit Go.Proofs.YtgghglocfdcegaaGreat.PFnExactCrewRun Go.Proofs.YtgghglocfdcegaaGreatW.PrintWords
set_option linter.unusedVariables false
set_option linter.unusedSimpArgs false
set_option maxRecDepth 100000
set_option maxHeartbeats 16000000
def nx (b : Int) : Int := wrap64 (b + 1)
def mkI : List Int → Int → List Int × Int
 | [], b => ([], b)
 | _ :: l, b => (b :: (mkI l (nx b)).1, (mkI l (nx b)).2)
def mk1 (b : Int) : S54 := ⟨b, nx b, nx (nx b), nx (nx (nx b)), nx (nx (nx (nx b))), nx (nx (nx (nx (nx b)))), nx (nx (nx (nx (nx (nx b))))), nx (nx (nx (nx (nx (nx (nx b)))))), nx (nx (nx (nx (nx (nx (nx (nx b))))))), (nx (nx (nx (nx (nx (nx (nx (nx (nx b))))))))).tmod 3 == 0⟩
def nx10 (b : Int) : Int := nx (nx (nx (nx (nx (nx (nx (nx (nx (nx b)))))))))
def mkC : List S54 → Int → List S54 × Int
 | [], b => ([], b)
 | _ :: l, b => (mk1 b :: (mkC l (nx10 b)).1, (mkC l (nx10 b)).2)
def mkR (g n cap sz ty : Nat) (i : Int) (pre post : List Value) : Nat → Row
 | 0 => winB g n cap sz 0 i pre post ty
 | _ => Zfs
theorem Zee {O : Ops} (hO : O = std) {w : World} {g n cap sz ty i : Nat} {pre post : List Value} (hi : i < n) (hp : pre.length = i * sz) : CxOk Tryz.prog (ZcE O [] [] (mkR g n cap sz ty i pre post)) (fun _ => g) 1 w := by
 refine ⟨ZcF, ZcG, hO, fun r => ?_, fun f g l v h1 h2 => (by cases h1), fun f g cs l' cs' v' h1 h2 => (by cases h1), fun _ _ _ _ _ h => (by cases h), fun i hi => ?_, fun i hi => ?_, fun r b hb => ?_⟩
 ·match r with
  | 0 => exact fun hw => by cases hw
  | r + 1 => exact fun _ i hi => absurd hi (Nat.not_lt_zero _)
 ·match i, hi with
  | 0, hi => cases hi
  | i + 1, _ => exact ⟨rfl, rfl⟩
 ·match i, hi with
  | i + 1, _ => rfl
 ·match r, hb with
  | 0, hb => injection hb with hb; subst hb; exact ⟨by decide, rfl, Int.natCast_nonneg _, Int.ofNat_lt.2 hi, hp⟩
  | r + 1, hb => cases hb
theorem Zcq {w : World} {g n cap sz ty : Nat} {i : Int} {pre post : List Value} {cs : List AV} (h : w.heap[g]? = some (.cells (pre ++ (AV.vs (mkR g n cap sz ty i pre post) cs ++ post)).toArray ty (0, 0))) : Zak (mkR g n cap sz ty i pre post) (fun _ => g) 1 w (fun _ => g) [cs] w := by
 refine ⟨fun j c hj => ?_, fun j j' hj hj' _ => ?_, Nat.le_refl _, fun _ _ => rfl, fun j h1 h2 => ?_, Upd.refl _ _⟩
 ·match j, hj with
  | 0, hj => injection hj with hj; subst hj; exact ⟨ty, fun _ => rfl, h⟩
  | j + 1, hj => cases hj
 ·simp at hj hj'
  omega
 ·simp at h2
  omega
theorem Za2.walk (v : Value) (l : List Int) (a : Int) (w0 w : World) (P : Nat → Prop) (hB : Below w0.heap.size w0 w) (h : (Kd.int .i64).R 3 w w0.heap.size P v l) :
 Calls Tryz.prog 16 #[v, .int .i64 a] w fun e w' => e = .returned (.int .i64 (mkI l a).2) ∧ (Kd.int .i64).R 3 w' w0.heap.size P v (mkI l a).1 ∧ Below w0.heap.size w0 w' ∧ Kept w w' P := by
 obtain ⟨A, cap, rfl⟩ := Kd.R_slice h
 have hlen := (Kd.R_reads' h).2.2.2.1
 obtain ⟨O, hO⟩ : ∃ O, O = std := ⟨_, rfl⟩
 have hnx : ∀ x : Int, O.add x 1 = nx x := fun x => by
  rw [hO]
  rfl
 have hX0 : ∀ w, CxOk Tryz.prog (mkXR O [] [] []) (fun _ => 0) 0 w := fun w => Zaw hO ZW Zap fun r => Zax rfl
 refine ZaD (X := mkXR O [] [] []) (d1 := fun _ => 0) Tryz.func16 rfl (by kernel_rfl) hm (hX0 w) [.slc A l.length cap, .int a] 5 900 (Nat.le_of_ble_eq_true rfl) ?_
 generalize hQ : Owes _ _ _ _ _ _ = Q
 generalize hn : l.length = nl
 cbv
 subst hQ hn
 intro hk d5 a5 w5 hR5 hr5
 have hb5 : Below w.heap.size w w5 := hr5.upd.below fun k ⟨i, hi, _⟩ => by omega
 refine ZaT (l.length + 1) ?_
 refine ZaX (fun kk a' w' => ∃ (i : Nat) (b : Int) (cur : List Int), i ≤ l.length ∧ l.length - i < kk ∧ cur.length = l.length ∧ mkI l a = (cur.take i ++ (mkI (cur.drop i) b).1, (mkI (cur.drop i) b).2) ∧ (Kd.int .i64).R 3 w' w0.heap.size P (.slice A l.length cap) cur ∧ Below w0.heap.size w0 w' ∧ Kept w w' P ∧ Rel (ZZ []) (fun _ => 0) (St.of 5 19 [(0, .v (.slc A l.length cap)), (1, .v (.int b)), (5, .v (.int (i : Nat)))] []) a') (fun a' w' ⟨i, b, cur, h1, h2, _⟩ => by omega) (fun kk a' w' IH hI => ?_) _ _ _ ?_
 rotate_left
 ·exact ⟨0, a, l, Nat.zero_le _, by omega, rfl, rfl, Kd.R_below h hb5, below_step hB hb5, Kept.of_below hb5 _, hR5.carry rfl ⟨⟨rfl, rfl, trivial⟩, ⟨rfl, rfl, trivial⟩, ⟨rfl, rfl, trivial⟩, trivial⟩ rfl⟩
 obtain ⟨i, b, cur, hi, hkk, hcl, hmk, hRw, hBw, hKw, hRel⟩ := hI
 by_cases hlt : i < l.length
 ·have hic : i < cur.length := by omega
  obtain ⟨x, hx⟩ : ∃ x, cur[i]? = some x := ⟨_, List.getElem?_eq_getElem hic⟩
  have hdr : cur.drop i = x :: cur.drop (i + 1) := by
   rw [List.drop_eq_getElem_cons hic]
   congr 1
   exact Option.some.inj ((List.getElem?_eq_getElem hic).symm.trans hx)
  obtain ⟨g, c', hv, -, -, -⟩ := Kd.R_form hRw (by omega)
  injection hv with hv1 hv2 hv3
  subst hv1 hv3
  obtain ⟨cu, cs, B1, B2, B3, B4, BM, Bback⟩ := ZdX (d := (Kd.int .i64)) rfl hRw hx
  obtain rfl : cs = [Value.int .i64 x] := BM
  generalize hpre : cu.take (i * (Kd.int .i64).sz) = pre at *
  generalize hpost : cu.drop (i * (Kd.int .i64).sz + (Kd.int .i64).sz) = post at *
  refine ZaF Zag hm (Zee (w := w') (cap := cap) (ty := 3) (post := post) hO hlt B4) 900 _ _ (fun _ => g) a' w' ⟨hk.1, hk.1, hk.2⟩ (hRel.carry (R' := mkR g l.length cap 1 3 i pre post) (d' := fun _ => g) (dep := 5) (n := 19) (l := [(0, .v (.sl 0)), (1, .v (.int b)), (5, .v (.int (i : Nat)))]) (b := [[.int x]]) rfl ⟨⟨rfl, rfl, trivial⟩, ⟨rfl, rfl, trivial⟩, ⟨rfl, rfl, trivial⟩, trivial⟩ rfl) (Zcq B1) ?_
  have i2 : O.eq (i : Int) (i : Int) = true := by
   rw [hO]
   exact beq_iff_eq.2 rfl
  have i3 : O.lt (i : Int) (l.length : Int) = true := by
   rw [hO]
   exact decide_eq_true (show (i : Int) < (l.length : Int) by omega)
  generalize hQ : Owes _ _ _ _ _ _ = Q
  generalize hn : l.length = nl at i3 ⊢
  cbv
  refine ⟨fun _ => ?_, fun hf => absurd i3 (by rw [show O.lt (i : Int) (nl : Int) = false from hf]; simp)⟩
  cbv
  repeat' (apply And.intro <;> (try intro) <;> (try cbv))
  all_goals subst hQ hn
  all_goals (try exact i2)
  intro hk8 d8 a8 w8 hR8 hr8
  obtain ⟨y0, q0, z0⟩ := hr8.box 0 _ rfl
  rw [hr8.old 0 (by decide), q0 rfl] at z0
  have hR9 := Bback w8 (b) ([.int .i64 b]) (by
   have z := z0
   simp only [AV.vs, AV.v, hnx, AV.v] at z
   exact z) (rfl)
  refine IH a8 w8 ⟨i + 1, nx b, cur.set i (b), hlt, by omega, by rw [List.length_set]; exact hcl, ?_, hR9, ?_, ?_, hR8.carry rfl ⟨⟨rfl, rfl, trivial⟩, ⟨rfl, by simp only [Slot.val, AV.v, hnx, AV.v]; rfl, trivial⟩, ⟨rfl, ?_, trivial⟩, trivial⟩ rfl⟩
  ·rw [hmk, hdr]
   simp only [mkI]
   rw [List.drop_set_of_lt (Nat.lt_succ_self i), List.take_add_one, List.take_set_of_le (Nat.le_refl i), List.getElem?_set_self hic]
   simp
  ·exact ⟨hr8.upd.os.trans hBw.os, hr8.upd.tape.trans hBw.tape, hr8.upd.output.trans hBw.output, Nat.le_trans hBw.size hr8.upd.size, fun q hq => (hr8.upd.block q (Nat.lt_of_lt_of_le hq hBw.size) (fun ⟨_, _, he⟩ => by have he : q = g := he; omega)).trans (hBw.block q hq)⟩
  ·exact ⟨Nat.le_trans hKw.1 hr8.upd.size, fun q hq hn => (hr8.upd.block q (Nat.lt_of_lt_of_le hq hKw.1) (fun ⟨_, _, he⟩ => hn (by rw [he]; exact B3))).trans (hKw.2 q hq hn)⟩
  ·rw [show (Slot.v (AV.int ((i + 1 : Nat) : Int))).val (ZZ []) (fun _ => 0) = .int .i64 (nx (i : Int)) from congrArg (Value.int .i64) (by unfold nx wrap64; omega), ← hnx]
   rfl
 ·obtain rfl : i = l.length := by omega
  refine ZaF Zag hm (hX0 w') 900 _ _ (fun _ => 0) a' w' ⟨hk.1, hk.1, hk.2⟩ hRel (Zak.start w') ?_
  have i3 : O.lt (l.length : Int) (l.length : Int) = false := by
   rw [hO]
   exact decide_eq_false (show ¬ (l.length : Int) < (l.length : Int) by omega)
  generalize hQ : Owes _ _ _ _ _ _ = Q
  generalize hn : l.length = nl at i3 ⊢
  cbv
  refine ⟨fun hf => absurd i3 (by rw [show O.lt (nl : Int) (nl : Int) = true from hf]; simp), fun _ => ?_⟩
  cbv
  subst hQ hn
  have hdn : cur.drop l.length = [] := List.drop_eq_nil_of_le (by omega)
  have htk : cur.take l.length = cur := List.take_of_length_le (by omega)
  rw [hdn, htk] at hmk
  simp only [mkI, List.append_nil] at hmk
  refine Zav (hX0 w') rfl fun d7 w7 hr7 => ?_
  have hb7 : Below w'.heap.size w' w7 := hr7.upd.below fun k ⟨i, hi, _⟩ => by omega
  rw [hmk]
  exact ⟨rfl, Kd.R_below hRw hb7, below_step hBw hb7, hKw.then_ (Kept.of_below hb7 (fun _ => False)) (fun _ hf => hf.elim)⟩
theorem ZcB.walk (v : Value) (l : List S54) (a : Int) (w0 w : World) (P : Nat → Prop) (hB : Below w0.heap.size w0 w) (h : k54.R 54 w w0.heap.size P v l) :
 Calls Tryz.prog 56 #[v, .int .i64 a] w fun e w' => e = .returned (.int .i64 (mkC l a).2) ∧ k54.R 54 w' w0.heap.size P v (mkC l a).1 ∧ Below w0.heap.size w0 w' ∧ Kept w w' P := by
 obtain ⟨A, cap, rfl⟩ := Kd.R_slice h
 have hlen := (Kd.R_reads' h).2.2.2.1
 obtain ⟨O, hO⟩ : ∃ O, O = std := ⟨_, rfl⟩
 have hnx : ∀ x : Int, O.add x 1 = nx x := fun x => by
  rw [hO]
  rfl
 have hrem : ∀ x : Int, O.eq (O.rem x 3) 0 = (x.tmod 3 == 0) := fun x => by
  rw [hO]
  rfl
 have hX0 : ∀ w, CxOk Tryz.prog (mkXR O [] [] []) (fun _ => 0) 0 w := fun w => Zaw hO ZW Zap fun r => Zax rfl
 refine ZaD (X := mkXR O [] [] []) (d1 := fun _ => 0) Tryz.func56 rfl (by kernel_rfl) hm (hX0 w) [.slc A l.length cap, .int a] 7 900 (Nat.le_of_ble_eq_true rfl) ?_
 generalize hQ : Owes _ _ _ _ _ _ = Q
 generalize hn : l.length = nl
 cbv
 subst hQ hn
 intro hk d5 a5 w5 hR5 hr5
 have hb5 : Below w.heap.size w w5 := hr5.upd.below fun k ⟨i, hi, _⟩ => by omega
 refine ZaT (l.length + 1) ?_
 refine ZaX (fun kk a' w' => ∃ (i : Nat) (b : Int) (cur : List S54), i ≤ l.length ∧ l.length - i < kk ∧ cur.length = l.length ∧ mkC l a = (cur.take i ++ (mkC (cur.drop i) b).1, (mkC (cur.drop i) b).2) ∧ k54.R 54 w' w0.heap.size P (.slice A l.length cap) cur ∧ Below w0.heap.size w0 w' ∧ Kept w w' P ∧ Rel (ZZ []) (fun _ => 0) (St.of 7 85 [(0, .v (.slc A l.length cap)), (1, .v (.int b)), (5, .v (.int (i : Nat)))] []) a') (fun a' w' ⟨i, b, cur, h1, h2, _⟩ => by omega) (fun kk a' w' IH hI => ?_) _ _ _ ?_
 rotate_left
 ·exact ⟨0, a, l, Nat.zero_le _, by omega, rfl, rfl, Kd.R_below h hb5, below_step hB hb5, Kept.of_below hb5 _, hR5.carry rfl ⟨⟨rfl, rfl, trivial⟩, ⟨rfl, rfl, trivial⟩, ⟨rfl, rfl, trivial⟩, trivial⟩ rfl⟩
 obtain ⟨i, b, cur, hi, hkk, hcl, hmk, hRw, hBw, hKw, hRel⟩ := hI
 by_cases hlt : i < l.length
 ·have hic : i < cur.length := by omega
  obtain ⟨x, hx⟩ : ∃ x, cur[i]? = some x := ⟨_, List.getElem?_eq_getElem hic⟩
  have hdr : cur.drop i = x :: cur.drop (i + 1) := by
   rw [List.drop_eq_getElem_cons hic]
   congr 1
   exact Option.some.inj ((List.getElem?_eq_getElem hic).symm.trans hx)
  obtain ⟨g, c', hv, -, -, -⟩ := Kd.R_form hRw (by omega)
  injection hv with hv1 hv2 hv3
  subst hv1 hv3
  obtain ⟨cu, cs, B1, B2, B3, B4, BM, Bback⟩ := ZdX (d := k54) rfl hRw hx
  obtain rfl := k54_openM BM
  generalize hpre : cu.take (i * k54.sz) = pre at *
  generalize hpost : cu.drop (i * k54.sz + k54.sz) = post at *
  refine ZaF Zag hm (Zee (w := w') (cap := cap) (ty := 54) (post := post) hO hlt B4) 900 _ _ (fun _ => g) a' w' ⟨hk.1, hk.1, hk.2⟩ (hRel.carry (R' := mkR g l.length cap 10 54 i pre post) (d' := fun _ => g) (dep := 7) (n := 85) (l := [(0, .v (.sl 0)), (1, .v (.int b)), (5, .v (.int (i : Nat)))]) (b := [ZaE (clA x)]) rfl ⟨⟨rfl, rfl, trivial⟩, ⟨rfl, rfl, trivial⟩, ⟨rfl, rfl, trivial⟩, trivial⟩ rfl) (Zcq B1) ?_
  have i2 : O.eq (i : Int) (i : Int) = true := by
   rw [hO]
   exact beq_iff_eq.2 rfl
  have i3 : O.lt (i : Int) (l.length : Int) = true := by
   rw [hO]
   exact decide_eq_true (show (i : Int) < (l.length : Int) by omega)
  generalize hQ : Owes _ _ _ _ _ _ = Q
  generalize hn : l.length = nl at i3 ⊢
  cbv
  refine ⟨fun _ => ?_, fun hf => absurd i3 (by rw [show O.lt (i : Int) (nl : Int) = false from hf]; simp)⟩
  cbv
  repeat' (apply And.intro <;> (try intro) <;> (try cbv))
  all_goals subst hQ hn
  all_goals (try exact i2)
  intro hk8 d8 a8 w8 hR8 hr8
  obtain ⟨y0, q0, z0⟩ := hr8.box 0 _ rfl
  rw [hr8.old 0 (by decide), q0 rfl] at z0
  have hR9 := Bback w8 (mk1 b) (clV (mk1 b)) (by
   have z := z0
   simp only [AV.vs, AV.v, hnx, hrem] at z
   exact z) (k54_mkM w8 _ _ _)
  refine IH a8 w8 ⟨i + 1, nx10 b, cur.set i (mk1 b), hlt, by omega, by rw [List.length_set]; exact hcl, ?_, hR9, ?_, ?_, hR8.carry rfl ⟨⟨rfl, rfl, trivial⟩, ⟨rfl, by simp only [Slot.val, AV.v, hnx, nx10]; rfl, trivial⟩, ⟨rfl, ?_, trivial⟩, trivial⟩ rfl⟩
  ·rw [hmk, hdr]
   simp only [mkC]
   rw [List.drop_set_of_lt (Nat.lt_succ_self i), List.take_add_one, List.take_set_of_le (Nat.le_refl i), List.getElem?_set_self hic]
   simp
  ·exact ⟨hr8.upd.os.trans hBw.os, hr8.upd.tape.trans hBw.tape, hr8.upd.output.trans hBw.output, Nat.le_trans hBw.size hr8.upd.size, fun q hq => (hr8.upd.block q (Nat.lt_of_lt_of_le hq hBw.size) (fun ⟨_, _, he⟩ => by have he : q = g := he; omega)).trans (hBw.block q hq)⟩
  ·exact ⟨Nat.le_trans hKw.1 hr8.upd.size, fun q hq hn => (hr8.upd.block q (Nat.lt_of_lt_of_le hq hKw.1) (fun ⟨_, _, he⟩ => hn (by rw [he]; exact B3))).trans (hKw.2 q hq hn)⟩
  ·rw [show (Slot.v (AV.int ((i + 1 : Nat) : Int))).val (ZZ []) (fun _ => 0) = .int .i64 (nx (i : Int)) from congrArg (Value.int .i64) (by unfold nx wrap64; omega), ← hnx]
   rfl
 ·obtain rfl : i = l.length := by omega
  refine ZaF Zag hm (hX0 w') 900 _ _ (fun _ => 0) a' w' ⟨hk.1, hk.1, hk.2⟩ hRel (Zak.start w') ?_
  have i3 : O.lt (l.length : Int) (l.length : Int) = false := by
   rw [hO]
   exact decide_eq_false (show ¬ (l.length : Int) < (l.length : Int) by omega)
  generalize hQ : Owes _ _ _ _ _ _ = Q
  generalize hn : l.length = nl at i3 ⊢
  cbv
  refine ⟨fun hf => absurd i3 (by rw [show O.lt (nl : Int) (nl : Int) = true from hf]; simp), fun _ => ?_⟩
  cbv
  subst hQ hn
  have hdn : cur.drop l.length = [] := List.drop_eq_nil_of_le (by omega)
  have htk : cur.take l.length = cur := List.take_of_length_le (by omega)
  rw [hdn, htk] at hmk
  simp only [mkC, List.append_nil] at hmk
  refine Zav (hX0 w') rfl fun d7 w7 hr7 => ?_
  have hb7 : Below w'.heap.size w' w7 := hr7.upd.below fun k ⟨i, hi, _⟩ => by omega
  rw [hmk]
  exact ⟨rfl, Kd.R_below hRw hb7, below_step hBw hb7, hKw.then_ (Kept.of_below hb7 (fun _ => False)) (fun _ hf => hf.elim)⟩
def mkT : List S52 → Int → List S52 × Int
 | [], b => ([], b)
 | t :: l, b => (⟨(mkC t.f0 b).1, (mkC t.f0 b).2, (mkI t.f2 (nx (mkC t.f0 b).2)).1, (mkI t.f3 (mkI t.f2 (nx (mkC t.f0 b).2)).2).1⟩ :: (mkT l (mkI t.f3 (mkI t.f2 (nx (mkC t.f0 b).2)).2).2).1, (mkT l (mkI t.f3 (mkI t.f2 (nx (mkC t.f0 b).2)).2).2).2)
section
variable {P : Program} {X : Cx} {d1 : Nat → Nat} {n1 : Nat} {w1 : World} {d : Nat → Nat} {st : St} {a : Act} {w : World}
theorem Zak.after {R : Nat → Row} {b : List (List AV)} {w' : World} {S : Nat → Prop} (hr : Zak R d1 n1 w1 d b w) (hk : Kept w w' S) (hn : ∀ i, i < b.length → ¬ S (d i)) : Zak R d b.length w' d b w' :=
 ⟨fun i cs hi => by
   obtain ⟨ty, h1, h2⟩ := hr.box i cs hi
   have hl := (List.getElem?_eq_some_iff.1 hi).1
   exact ⟨ty, h1, by rw [hk.2 _ (hr.lt hl) (hn i hl)]; exact h2⟩, hr.inj, Nat.le_refl _, fun _ _ => rfl, fun i h1 h2 => by omega, Upd.refl _ _⟩
theorem ZaL (hm : P.follows .mixedOrders = true) {fn : Func} {Post0 : Ending → World → Prop} {all : Array Oper} {o : Oper} {l : List Oper} {K : List KI}
 (hg : Zbw all st o = .known true) {c : Call} (ho : o.op = .call c) {f : FuncId} (hc : c.callee = .value (.func f))
 (hn : ∃ fn, P.funcs[f]? = some fn ∧ (fn.name == "runtime.NumGoroutine") = false ∧ fn.body.isSome = true) {L : List AV} (hl : evL st c.args.toList = some L)
 (h : ∀ d w, Zak X.R d1 n1 w1 d st.b w → ∃ Post, Calls P f (AV.vs X.R L).toArray w Post ∧ ∀ e w', Post e w' → ∃ y n st' S, e = .returned (y.v X.R) ∧ Kept w w' S ∧ (∀ i, i < st.b.length → ¬ S (d i)) ∧ CxOk P X d st.b.length w' ∧ putX st o.dst (.v y) st.b = some st' ∧ (seg X n (.ops all l :: K) st').holds (Owes P X d st.b.length w' (bodyPost P fn Post0))) :
 Owes P X d1 n1 w1 (bodyPost P fn Post0) (.stop (.ops all (o :: l) :: K) st) := by
 intro hk d a w hR hr
 obtain ⟨Post, h1, h2⟩ := h d w hr
 obtain ⟨fn', hf, hnm, hbd⟩ := hn
 show wpList P all (wpK P _ K) (o :: l) a w
 unfold wpList
 rw [ZaU hR hg, if_pos rfl]
 refine .inl ?_
 unfold Oper.wp
 rw [Zba ho hc hf hnm hbd w, Oper.upon_enter]
 have e : c.args.map a.eval = (AV.vs X.R L).toArray := by
  rw [← Zbv hR hl, ← Array.toList_map, Array.toArray_toList]
 rw [e]
 refine h1.mono fun e w' hq => ?_
 obtain ⟨y, n, st', S, rfl, hkp, hnS, hX', hp, hh⟩ := h2 e w' hq
 obtain ⟨g1, g2⟩ := hR.put (d' := d) (fun _ _ => rfl) (Nat.le_refl _) (SOk.v ..) hp
 exact ZaS Zag hm hX' (fun l hl hk d a w => hl hk d a w) n (.ops all l :: K) st' d _ w' hk g1 (g2 ▸ hr.after hkp hnS) hh
end
theorem Zca {w w' w2 : World} {P S : Nat → Prop} (h : Kept w w' P) (hu : Upd S w' w2) (hs : ∀ k, S k → P k ∨ w.heap.size ≤ k) : Kept w w2 P :=
 ⟨Nat.le_trans h.1 hu.size, fun q hq hn => (hu.block q (Nat.lt_of_lt_of_le hq h.1) (fun hh => (hs q hh).elim hn (fun h2 => by omega))).trans (h.2 q hq hn)⟩
theorem Zdr.walk (v : Value) (l : List Int) (a : Int) (w0 w : World) (P : Nat → Prop) (hB : Below w0.heap.size w0 w) (h : (Kd.int .i64).R 3 w w0.heap.size P v l) :
 Calls Tryz.prog 30 #[.agg #[v], .int .i64 a] w fun e w' => e = .returned (.int .i64 (mkI l a).2) ∧ (Kd.int .i64).R 3 w' w0.heap.size P v (mkI l a).1 ∧ Below w0.heap.size w0 w' ∧ Kept w w' P := by
 obtain ⟨A, cap, rfl⟩ := Kd.R_slice h
 obtain ⟨O, hO⟩ : ∃ O, O = std := ⟨_, rfl⟩
 have hX0 : ∀ d n w, CxOk Tryz.prog (mkXR O [] [] []) d n w := fun d n w => Zaw hO ZW Zap fun r => Zax rfl
 refine ZaD (X := mkXR O [] [] []) (d1 := fun _ => 0) Tryz.func30 rfl (by kernel_rfl) hm (hX0 _ 0 w) [.agg [.slc A l.length cap], .int a] 4 900 (Nat.le_of_ble_eq_true rfl) ?_
 generalize hQ : Owes _ _ _ _ _ _ = Q
 generalize hn : l.length = nl
 cbv
 subst hQ hn
 refine ZaL hm rfl rfl rfl ⟨_, Tryz.func16, rfl, rfl⟩ rfl fun d1 w1 hr1 => ?_
 have hb1 : Below w.heap.size w w1 := hr1.upd.below fun k ⟨i, hi, _⟩ => by omega
 have ht := Kd.R_tight rfl (Kd.R_below h hb1)
 refine ⟨_, Za2.walk _ l a w0 w1 _ (below_step hB hb1) ht, ?_⟩
 rintro e2 w2 ⟨rfl, hR2, hB2, hK2⟩
 have hlt : ∀ q, some q = (Value.slice A l.length cap).ownBlock → q < w.heap.size := fun q hq => Kd.R_lt h q hq.symm
 have hd0 : w.heap.size ≤ d1 0 := hr1.new 0 (Nat.le_refl _) (Nat.zero_lt_succ _)
 refine ⟨.int (mkI l a).2, 900, _, _, rfl, hK2, fun i hi hs => ?_, hX0 _ _ _, rfl, ?_⟩
 ·match i, hi with
  | 0, _ => have := hlt _ hs; omega
 generalize hQ : Owes _ _ _ _ _ _ = Q
 generalize hn : l.length = nl
 generalize hmk : (mkI l a).2 = r2
 cbv
 subst hQ hn hmk
 refine Zav (hX0 _ _ _) rfl fun d3 w3 hr3 => ⟨rfl, ?_, ?_, ?_⟩
 ·refine Kd.R_mono (Kd.R_step hR2 fun q hq hlt2 => hr3.upd.block q hlt2 ?_) (fun q hq => h.1 q hq.symm)
  rintro ⟨i, hi, he⟩
  match i, hi, he with
  | 0, _, he => have := hlt q hq; omega
 ·refine Zar hB2 hr3.upd ?_ hB2.size
  rintro q ⟨i, hi, he⟩
  match i, hi, he with
  | 0, _, he => have := hB.size; omega
 ·refine Zca ((Kept.of_below hb1 P).then_ hK2 (fun q hq => .inl (h.1 q hq.symm))) hr3.upd ?_
  rintro q ⟨i, hi, he⟩
  match i, hi, he with
  | 0, _, he => exact .inr (by omega)
theorem ZdO {O : Ops} (hO : O = std) {w : World} {d : Nat → Nat} {g n cap sz ty i : Nat} {pre post : List Value} (hd : d 0 = g) (hi : i < n) (hp : pre.length = i * sz) : CxOk Tryz.prog (ZcE O [] [] (mkR g n cap sz ty i pre post)) d 1 w := by
 have h := Zee (w := w) (g := g) (cap := cap) (ty := ty) (post := post) hO hi hp
 refine ⟨h.T, h.nz, h.O, fun r => ?_, fun f g l v h1 h2 => (by cases h1), fun f g cs l' cs' v' h1 h2 => (by cases h1), h.E, h.W, h.W1, fun r b hb => ?_⟩
 ·match r with
  | 0 => exact fun hw => by cases hw
  | r + 1 => exact fun _ i hi => absurd hi (Nat.not_lt_zero _)
 ·obtain ⟨v1, v2, v3, v4, v5⟩ := h.V r b hb
  obtain rfl : b = 0 := by omega
  exact ⟨v1, by rw [hd]; exact v2, v3, v4, v5⟩
theorem Zb4.walk (v : Value) (l : List S52) (a : Int) (w0 w : World) (ok : Nat → Prop) (hB : Below w0.heap.size w0 w) (h : Kd.S k52 52 w w0.heap.size ok v l) :
 Calls Tryz.prog 31 #[v, .int .i64 a] w fun e w' => e = .returned (.int .i64 (mkT l a).2) ∧ Kd.S k52 52 w' w0.heap.size ok v (mkT l a).1 ∧ Below w0.heap.size w0 w' ∧ Kept w w' ok := by
 obtain ⟨A, cap, rfl⟩ := Kd.S_slice h
 have hlen := (Kd.S_reads' h).2.2.2.1
 obtain ⟨O, hO⟩ : ∃ O, O = std := ⟨_, rfl⟩
 have hnx : ∀ x : Int, O.add x 1 = nx x := fun x => by
  rw [hO]
  rfl
 have hX0 : ∀ w, CxOk Tryz.prog (mkXR O [] [] []) (fun _ => 0) 0 w := fun w => Zaw hO ZW Zap fun r => Zax rfl
 refine ZaD (X := mkXR O [] [] []) (d1 := fun _ => 0) Tryz.func31 rfl (by kernel_rfl) hm (hX0 w) [.slc A l.length cap, .int a] 6 900 (Nat.le_of_ble_eq_true rfl) ?_
 generalize hQ : Owes _ _ _ _ _ _ = Q
 generalize hn : l.length = nl
 cbv
 subst hQ hn
 intro hk d5 a5 w5 hR5 hr5
 have hb5 : Below w.heap.size w w5 := hr5.upd.below fun k ⟨i, hi, _⟩ => by omega
 refine ZaT (l.length + 1) ?_
 refine ZaX (fun kk a' w' => ∃ (i : Nat) (b : Int) (cur : List S52), i ≤ l.length ∧ l.length - i < kk ∧ cur.length = l.length ∧ mkT l a = (cur.take i ++ (mkT (cur.drop i) b).1, (mkT (cur.drop i) b).2) ∧ Kd.S k52 52 w' w0.heap.size ok (.slice A l.length cap) cur ∧ Below w0.heap.size w0 w' ∧ Kept w w' ok ∧ Rel (ZZ []) (fun _ => 0) (St.of 6 41 [(0, .v (.slc A l.length cap)), (1, .v (.int b)), (5, .v (.int (i : Nat)))] []) a') (fun a' w' ⟨i, b, cur, h1, h2, _⟩ => by omega) (fun kk a' w' IH hI => ?_) _ _ _ ?_
 rotate_left
 ·exact ⟨0, a, l, Nat.zero_le _, by omega, rfl, rfl, Kd.S_below h hb5, below_step hB hb5, Kept.of_below hb5 _, hR5.carry rfl ⟨⟨rfl, rfl, trivial⟩, ⟨rfl, rfl, trivial⟩, ⟨rfl, rfl, trivial⟩, trivial⟩ rfl⟩
 obtain ⟨i, b, cur, hi, hkk, hcl, hmk, hRw, hBw, hKw, hRel⟩ := hI
 by_cases hlt : i < l.length
 ·have hic : i < cur.length := by omega
  obtain ⟨x, hx⟩ : ∃ x, cur[i]? = some x := ⟨_, List.getElem?_eq_getElem hic⟩
  have hdr : cur.drop i = x :: cur.drop (i + 1) := by
   rw [List.drop_eq_getElem_cons hic]
   congr 1
   exact Option.some.inj ((List.getElem?_eq_getElem hic).symm.trans hx)
  obtain ⟨g, c', hv, -, -, -⟩ := Kd.S_form hRw (by omega)
  injection hv with hv1 hv2 hv3
  subst hv1 hv3
  obtain ⟨cu, cs, oki, B1, B2, B3, B4, BM, hoki, Bback⟩ := ZgH hRw hx
  obtain ⟨v0, v2, v3, rfl, r0, r2, r3, hap⟩ := k52_openA BM
  have s0 := r0.1
  have s2 := r2.1
  have s3 := r3.1
  have n0 : ∀ {u : Value}, (∀ k, u.ownBlock = some k → oki k) → some g ≠ u.ownBlock := fun hu he => (hoki g (hu g he.symm)).2 rfl
  have d02 : ∀ q, some q = v2.ownBlock → some q ≠ v0.ownBlock := fun q h1 h2 => by
   obtain ⟨c1, e1⟩ := Kd.R_typed r0 q h2.symm
   obtain ⟨c2, e2⟩ := Kd.R_typed r2 q h1.symm
   exact ZbL e1 e2 (by decide) rfl
  have d03 : ∀ q, some q = v3.ownBlock → some q ≠ v0.ownBlock := fun q h1 h2 => by
   obtain ⟨c1, e1⟩ := Kd.R_typed r0 q h2.symm
   obtain ⟨c2, e2⟩ := Kd.R_typed r3 q h1.symm
   exact ZbL e1 e2 (by decide) rfl
  obtain ⟨A0, c0, rfl⟩ := Kd.R_slice r0
  obtain ⟨A2, c2, rfl⟩ := Kd.R_slice r2
  obtain ⟨A3, c3, rfl⟩ := Kd.R_slice r3
  have r0 := Kd.R_tight rfl r0
  have r2 := Kd.R_tight rfl r2
  have r3 := Kd.R_tight rfl r3
  have mvU : ∀ {α : Type} {d : Kd α} {e : Nat} {u : Value} {xs : List α} {x y : World} {D : Nat → Nat}, d.R e x w0.heap.size (fun q => some q = u.ownBlock) u xs → Upd (Bx D 1) x y → D 0 = g → some g ≠ u.ownBlock → d.R e y w0.heap.size (fun q => some q = u.ownBlock) u xs := fun h hu hD hg => Kd.R_step h (fun q hq hl => hu.block q hl (fun ⟨j, hj, he⟩ => by
   obtain rfl : j = 0 := by omega
   rw [hD] at he
   exact hg (he ▸ hq)))
  have mvK : ∀ {α : Type} {d : Kd α} {e : Nat} {u u' : Value} {xs : List α} {x y : World}, d.R e x w0.heap.size (fun q => some q = u.ownBlock) u xs → Kept x y (fun q => some q = u'.ownBlock) → (∀ q, some q = u.ownBlock → some q ≠ u'.ownBlock) → d.R e y w0.heap.size (fun q => some q = u.ownBlock) u xs := fun h hk hd => Kd.R_kept h hk (fun q hq hq' => hd q hq hq')
  have kU : ∀ {x y : World} {D : Nat → Nat}, Kept w' x (fun q => q = g ∨ oki q) → Upd (Bx D 1) x y → D 0 = g → Kept w' y (fun q => q = g ∨ oki q) := fun h hu hD => Zca h hu (fun q ⟨j, hj, he⟩ => by
   obtain rfl : j = 0 := by omega
   exact .inl (.inl (he.trans hD)))
  have bU : ∀ {x y : World} {D : Nat → Nat}, Below w0.heap.size w0 x → Upd (Bx D 1) x y → D 0 = g → Below w0.heap.size w0 y := fun h hu hD => Zar h hu (fun q ⟨j, hj, he⟩ => by
   obtain rfl : j = 0 := by omega
   rw [he, hD]
   exact B2) h.size
  generalize hpre : cu.take (i * k52.sz) = pre at *
  generalize hpost : cu.drop (i * k52.sz + k52.sz) = post at *
  have i2 : O.eq (i : Int) (i : Int) = true := by
   rw [hO]
   exact beq_iff_eq.2 rfl
  have i3 : O.lt (i : Int) (l.length : Int) = true := by
   rw [hO]
   exact decide_eq_true (show (i : Int) < (l.length : Int) by omega)
  refine ZaF Zag hm (Zee (w := w') (cap := cap) (ty := 52) (post := post) hO hlt B4) 900 _ _ (fun _ => g) a' w' ⟨hk.1, hk.1, hk.2⟩ (hRel.carry (R' := mkR g l.length cap 4 52 i pre post) (d' := fun _ => g) (dep := 6) (n := 41) (l := [(0, .v (.sl 0)), (1, .v (.int b)), (5, .v (.int (i : Nat)))]) (b := [[.slc A0 x.f0.length c0, .int x.f1, .slc A2 x.f2.length c2, .slc A3 x.f3.length c3]]) rfl ⟨⟨rfl, rfl, trivial⟩, ⟨rfl, rfl, trivial⟩, ⟨rfl, rfl, trivial⟩, trivial⟩ rfl) (Zcq B1) ?_
  generalize hQ : Owes _ _ _ _ _ _ = Q
  generalize hn : l.length = nl at i3 ⊢
  generalize hn0 : x.f0.length = m0
  generalize hn1 : x.f1 = m1
  generalize hn2 : x.f2.length = m2
  generalize hn3 : x.f3.length = m3
  cbv
  refine ⟨fun _ => ?_, fun hf => absurd i3 (by rw [show O.lt (i : Int) (nl : Int) = false from hf]; simp)⟩
  cbv
  repeat' (apply And.intro <;> (try intro) <;> (try cbv))
  all_goals subst hQ hn hn0 hn1 hn2 hn3
  all_goals (try exact i2)
  refine ZaL hm rfl rfl rfl ⟨_, Tryz.func56, rfl, rfl⟩ rfl fun d6 w6 hr6 => ?_
  have D6 : d6 0 = g := hr6.old 0 (Nat.zero_lt_succ _)
  refine ⟨_, ZcB.walk _ x.f0 b w0 w6 _ (bU hBw hr6.upd rfl) (mvU r0 hr6.upd rfl (n0 s0)), ?_⟩
  rintro e7 w7 ⟨rfl, R0, hB7, hK7⟩
  have K7 := (kU (Kept.refl _ _) hr6.upd rfl).then_ hK7 (fun q hq => .inl (.inr (s0 q hq.symm)))
  have R2 := mvK (mvU r2 hr6.upd rfl (n0 s2)) hK7 d02
  have R3 := mvK (mvU r3 hr6.upd rfl (n0 s3)) hK7 d03
  refine ⟨.int (mkC x.f0 b).2, 900, _, _, rfl, hK7, fun j hj hs => ?_, ZdO hO D6 hlt B4, rfl, ?_⟩
  ·match j, hj with
   | 0, _ => rw [D6] at hs; exact n0 s0 hs
  generalize hb1 : (mkC x.f0 b).2 = b1
  generalize hQ : Owes _ _ _ _ _ _ = Q
  generalize hn : l.length = nl at i3 ⊢
  generalize hn0 : x.f0.length = m0
  generalize hn1 : x.f1 = m1
  generalize hn2 : x.f2.length = m2
  generalize hn3 : x.f3.length = m3
  cbv
  repeat' (apply And.intro <;> (try intro) <;> (try cbv))
  all_goals subst hQ hn hn0 hn1 hn2 hn3
  all_goals (try exact i2)
  refine ZaL hm rfl rfl rfl ⟨_, Tryz.func16, rfl, rfl⟩ rfl fun d8 w8 hr8 => ?_
  have D8 : d8 0 = g := (hr8.old 0 (Nat.zero_lt_succ _)).trans D6
  refine ⟨_, Za2.walk _ x.f2 (O.add b1 1) w0 w8 _ (bU hB7 hr8.upd D6) (mvU R2 hr8.upd D6 (n0 s2)), ?_⟩
  rintro e9 w9 ⟨rfl, R2a, hB9, hK9⟩
  have K9 := (kU K7 hr8.upd D6).then_ hK9 (fun q hq => .inl (.inr (s2 q hq.symm)))
  have R0a := mvK (mvU R0 hr8.upd D6 (n0 s0)) hK9 (fun q h1 h2 => d02 q h2 h1)
  have R3a := mvK (mvU R3 hr8.upd D6 (n0 s3)) hK9 (fun q h1 h2 => hap q h2.symm h1.symm)
  refine ⟨.int (mkI x.f2 (O.add b1 1)).2, 900, _, _, rfl, hK9, fun j hj hs => ?_, ZdO hO D8 hlt B4, rfl, ?_⟩
  ·match j, hj with
   | 0, _ => rw [D8] at hs; exact n0 s2 hs
  generalize hb2 : (mkI x.f2 (O.add b1 1)).2 = b2
  generalize hQ : Owes _ _ _ _ _ _ = Q
  generalize hn : l.length = nl at i3 ⊢
  generalize hn0 : x.f0.length = m0
  generalize hn1 : x.f1 = m1
  generalize hn2 : x.f2.length = m2
  generalize hn3 : x.f3.length = m3
  cbv
  repeat' (apply And.intro <;> (try intro) <;> (try cbv))
  all_goals subst hQ hn hn0 hn1 hn2 hn3
  all_goals (try exact i2)
  refine ZaL hm rfl rfl rfl ⟨_, Tryz.func16, rfl, rfl⟩ rfl fun d10 w10 hr10 => ?_
  have D10 : d10 0 = g := (hr10.old 0 (Nat.zero_lt_succ _)).trans D8
  refine ⟨_, Za2.walk _ x.f3 b2 w0 w10 _ (bU hB9 hr10.upd D8) (mvU R3a hr10.upd D8 (n0 s3)), ?_⟩
  rintro e11 w11 ⟨rfl, R3b, hB11, hK11⟩
  have K11 := (kU K9 hr10.upd D8).then_ hK11 (fun q hq => .inl (.inr (s3 q hq.symm)))
  have R0b := mvK (mvU R0a hr10.upd D8 (n0 s0)) hK11 (fun q h1 h2 => d03 q h2 h1)
  have R2b := mvK (mvU R2a hr10.upd D8 (n0 s2)) hK11 (fun q h1 h2 => hap q h1.symm h2.symm)
  refine ⟨.int (mkI x.f3 b2).2, 900, _, _, rfl, hK11, fun j hj hs => ?_, ZdO hO D10 hlt B4, rfl, ?_⟩
  ·match j, hj with
   | 0, _ => rw [D10] at hs; exact n0 s3 hs
  generalize hb3 : (mkI x.f3 b2).2 = b3
  generalize hQ : Owes _ _ _ _ _ _ = Q
  generalize hn : l.length = nl at i3 ⊢
  generalize hn0 : x.f0.length = m0
  generalize hn1 : x.f1 = m1
  generalize hn2 : x.f2.length = m2
  generalize hn3 : x.f3.length = m3
  cbv
  repeat' (apply And.intro <;> (try intro) <;> (try cbv))
  all_goals subst hQ hn hn0 hn1 hn2 hn3
  all_goals (try exact i2)
  intro hk12 d12 a12 w12 hR12 hr12
  obtain ⟨y0, q0, z0⟩ := hr12.box 0 _ rfl
  rw [hr12.old 0 (Nat.zero_lt_succ _), D10, q0 rfl] at z0
  have K12 := kU K11 hr12.upd D10
  refine IH a12 w12 ⟨i + 1, b3, cur.set i ⟨(mkC x.f0 b).1, b1, (mkI x.f2 (O.add b1 1)).1, (mkI x.f3 b2).1⟩, hlt, by omega, by rw [List.length_set]; exact hcl, ?_, Bback w12 _ [.slice A0 x.f0.length c0, .int .i64 b1, .slice A2 x.f2.length c2, .slice A3 x.f3.length c3] z0 (fun q h1 h2 h3 h4 => K12.2 q h4 (fun h5 => h5.elim h2 h3)) (k52_mkM w12 w0.heap.size oki _ (Kd.R_mono (mvU R0b hr12.upd D10 (n0 s0)) fun q hq => s0 q hq.symm) (Kd.R_mono (mvU R2b hr12.upd D10 (n0 s2)) fun q hq => s2 q hq.symm) (Kd.R_mono (mvU R3b hr12.upd D10 (n0 s3)) fun q hq => s3 q hq.symm) hap), bU hB11 hr12.upd D10, hKw.then_ K12 (fun q hq => .inl (hq.elim (fun he => by rw [he]; exact B3) (fun ho => (hoki q ho).1))), hR12.carry rfl ⟨⟨rfl, rfl, trivial⟩, ⟨rfl, rfl, trivial⟩, ⟨rfl, ?_, trivial⟩, trivial⟩ rfl⟩
  ·rw [hmk, hdr]
   simp only [mkT, ← hnx, hb1, hb2, hb3]
   rw [List.drop_set_of_lt (Nat.lt_succ_self i), List.take_add_one, List.take_set_of_le (Nat.le_refl i), List.getElem?_set_self hic]
   simp
  ·rw [show (Slot.v (AV.int ((i + 1 : Nat) : Int))).val (ZZ []) (fun _ => 0) = .int .i64 (nx (i : Int)) from congrArg (Value.int .i64) (by unfold nx wrap64; omega), ← hnx]
   rfl
 ·obtain rfl : i = l.length := by omega
  refine ZaF Zag hm (hX0 w') 900 _ _ (fun _ => 0) a' w' ⟨hk.1, hk.1, hk.2⟩ hRel (Zak.start w') ?_
  have i3 : O.lt (l.length : Int) (l.length : Int) = false := by
   rw [hO]
   exact decide_eq_false (show ¬ (l.length : Int) < (l.length : Int) by omega)
  generalize hQ : Owes _ _ _ _ _ _ = Q
  generalize hn : l.length = nl at i3 ⊢
  cbv
  refine ⟨fun hf => absurd i3 (by rw [show O.lt (nl : Int) (nl : Int) = true from hf]; simp), fun _ => ?_⟩
  cbv
  subst hQ hn
  have hdn : cur.drop l.length = [] := List.drop_eq_nil_of_le (by omega)
  have htk : cur.take l.length = cur := List.take_of_length_le (by omega)
  rw [hdn, htk] at hmk
  simp only [mkT, List.append_nil] at hmk
  refine Zav (hX0 w') rfl fun d7 w7 hr7 => ?_
  have hb7 : Below w'.heap.size w' w7 := hr7.upd.below fun k ⟨i, hi, _⟩ => by omega
  rw [hmk]
  exact ⟨rfl, Kd.S_below hRw hb7, below_step hBw hb7, hKw.then_ (Kept.of_below hb7 (fun _ => False)) (fun _ hf => hf.elim)⟩
end Go.Proofs.YtgghglocfdcegaaGreat.Xec
