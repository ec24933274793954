/- Part B of the proof of FnExactCrewStep and FnExactCrewRun (wip/xec, pack.py). No condition. -/
import Derived.Test.YtgghglocfdcegaaGreatVCrew
import Derived.Test.YtgghglocfdcegaaGreatKA
import Derived.Test.YtgghglocfdcegaaGreatProg
import Derived.KernelRfl
namespace Go.Proofs.YtgghglocfdcegaaGreat.Xec
open Go Go.RowKit Go.Proofs.YtgghglocfdcegaaGreatW.PrintLast
set_option linter.unusedVariables false
set_option linter.unusedSimpArgs false
def wpK (P : Program) (Qf : Exit → Act → World → Prop) : List KI → Exit → Act → World → Prop
 | [], e, a, w => Qf e a w
 | .code c :: K, .normal, a, w => c.wp P (wpK P Qf K) a w
 | .ops all l :: K, .normal, a, w => wpList P all (wpK P Qf K) l a w
 | .mk k c :: K, .normal, a, w => Code.rounds P c (wpK P Qf K) k a w
 | .blk _ :: K, .normal, a, w => wpK P Qf K .normal a w
 | .blk id :: K, .exit i, a, w => if i = id then wpK P Qf K .normal a w else wpK P Qf K (.exit i) a w
 | _ :: K, e, a, w => wpK P Qf K e a w
def Zfa (n : Nat) (l : List (Nat × Oper)) : Array Bool := ((List.range n).map fun j => !(l.any fun x => x.1 == j)).toArray
def Za7 (ops : Array Oper) (H D : List Nat) : List (Nat × Oper) → Array Bool → Bool
 | [], l => Region.ready .any ops l == []
 | (i, o) :: r, l => if H.contains i then l == Zfa ops.size ((i, o) :: r) else ((if isSt o || isFn o || isAl o then readyB .any ops l (l.setIfInBounds i true) i else takeB .any ops D l (l.setIfInBounds i true) i) && Za7 ops H D r (l.setIfInBounds i true))
theorem ZbO {ops : Array Oper} {H D : List Nat} {i : Nat} {o : Oper} {r : List (Nat × Oper)} {l : Array Bool} (h : Za7 ops H D ((i, o) :: r) l = true) (hH : H.contains i = false) : (if isSt o || isFn o || isAl o then readyB .any ops l (l.setIfInBounds i true) i else takeB .any ops D l (l.setIfInBounds i true) i) = true ∧ Za7 ops H D r (l.setIfInBounds i true) = true := by
 simpa only [Za7, hH, Bool.false_eq_true, if_false, Bool.and_eq_true] using h
def ZaB : Code → Bool
 | .region _ ops true => if ops.toList.any isDr then ((ZbP ops.toList).length == ops.size && Za7 ops (hand ops.toList) (dsOf ops.toList) (ZbP ops.toList) (Array.replicate ops.size false)) else Region.lexB .any ops
 | .seq a b => ZaB a && ZaB b
 | .cond _ a b => ZaB a && ZaB b
 | .block _ b => ZaB b
 | .loop b => ZaB b
 | .scope _ => false
 | .rangeFunc .. => false
 | _ => true
def KOk : List KI → Prop
 | [] => True
 | .code c :: K => ZaB c = true ∧ KOk K
 | .mk _ c :: K => ZaB c = true ∧ KOk K
 | _ :: K => KOk K
def Leaf.kok : Leaf → Prop
 | .fin _ => True
 | .stop K _ => KOk K
 | .stopS _ _ _ K _ _ => KOk K
def Zf0 (P : Program) (X : Cx) (d1 : Nat → Nat) (n1 : Nat) (w1 : World) (d : Nat → Nat) (Qf : Exit → Act → World → Prop) : Leaf → Act → World → Prop
 | .fin _, a, w => Qf .ret a w ∧ Qf .normal a w
 | .stop K _, a, w => wpK P Qf K .normal a w
 | .stopS ops W _ K l st, a, w => ∀ li, Za7 ops (hand ops.toList) (dsOf ops.toList) l li = true → (∀ x ∈ l, ops[x.1]? = some x.2) → wpAnyLast P .any ops (wpK P Qf K) (fun w => ∃ b, Zak X.R d1 n1 w1 d b w ∧ Zay W 0 b = Zay W 0 st.b) (dsOf ops.toList) l.length li a w
def Leaf.st : Leaf → St
 | .fin st => st
 | .stop _ st => st
 | .stopS _ _ _ _ _ st => st
section
variable {P : Program} {Qf : Exit → Act → World → Prop}
theorem Zce : ∀ (K : List KI) (a : Act) (w : World), Qf .ret a w → wpK P Qf K .ret a w
 | [], _, _, h => h
 | .code _ :: K, a, w, h => Zce K a w h
 | .ops _ _ :: K, a, w, h => Zce K a w h
 | .blk _ :: K, a, w, h => Zce K a w h
 | .mk _ _ :: K, a, w, h => Zce K a w h
theorem ZbK {id : Nat} : ∀ (K K' : List KI) (a : Act) (w : World), Zcn id K = some K' → wpK P Qf K' .normal a w → wpK P Qf K (.exit id) a w
 | [], _, _, _, hp, _ => by simp [Zcn] at hp
 | .code _ :: K, K', a, w, hp, h => ZbK K K' a w hp h
 | .ops _ _ :: K, K', a, w, hp, h => ZbK K K' a w hp h
 | .mk _ _ :: K, K', a, w, hp, h => ZbK K K' a w hp h
 | .blk i :: K, K', a, w, hp, h => by
   simp only [Zcn] at hp
   show (if id = i then wpK P Qf K .normal a w else wpK P Qf K (.exit id) a w)
   by_cases he : i = id
   ·subst he
    simp only [beq_self_eq_true, if_true, Option.some.injEq] at hp
    subst hp
    rw [if_pos rfl]
    exact h
   ·rw [if_neg (by simpa using he)] at hp
    rw [if_neg (Ne.symm he)]
    exact ZbK K K' a w hp h
theorem Zcx {id : Nat} : ∀ (K K' : List KI), Zcn id K = some K' → KOk K → KOk K'
 | [], _, hp, _ => by simp [Zcn] at hp
 | .code _ :: K, K', hp, h => Zcx K K' hp h.2
 | .ops _ _ :: K, K', hp, h => Zcx K K' hp h
 | .mk _ _ :: K, K', hp, h => Zcx K K' hp h.2
 | .blk i :: K, K', hp, h => by
   simp only [Zcn] at hp
   split at hp
   ·injection hp with hp
    subst hp
    exact h
   ·exact Zcx K K' hp h
theorem ZeP (K : List KI) (c : Code) (e : Exit) (a : Act) (w : World) : wpK P Qf (.code c :: K) e a w → Exit.then (c.wp P (wpK P Qf K)) (wpK P Qf K) e a w := by
 cases e <;> exact id
theorem Zfv (K : List KI) (id : Nat) (e : Exit) (a : Act) (w : World) : wpK P Qf (.blk id :: K) e a w → Exit.inBlock id (wpK P Qf K) e a w := by
 cases e <;> exact fun h => h
variable {X : Cx} {d1 : Nat → Nat} {n1 : Nat} {w1 : World} {d : Nat → Nat} {st : St} {a : Act} {w : World}
theorem Slot.val_congr {R : Nat → Row} {d d' : Nat → Nat} {n : Nat} (hd : ∀ i, i < n → d' i = d i) {s : Slot} (h : ∀ b o, s = .ptr b o → b < n) : s.val R d' = s.val R d := by
 cases s with
 | ptr i o => simp only [Slot.val, hd i (h i o rfl)]
 | _ => rfl
theorem Rel.put (hR : Rel X.R d st a) {d' : Nat → Nat} (hd : ∀ i, i < st.b.length → d' i = d i) {b : List (List AV)} (hl : st.b.length ≤ b.length) {s : Slot} (hs : SOk X.R b.length s) {dst : Option Tmp} {st' : St} (hp : putX st dst s b = some st') : Rel X.R d' st' (a.put dst (s.val X.R d')) ∧ st'.b = b := by
 cases dst with
 | none =>
   injection hp with hp
   subst hp
   refine ⟨⟨hR.defers, hR.size, fun i => ?_, fun i b' o h => Nat.lt_of_lt_of_le (hR.ok i b' o h) hl, hR.okE⟩, rfl⟩
   rcases hR.slot i with h | h
   ·exact .inl h
   ·exact .inr (by rw [Slot.val_congr hd (fun b' o e => hR.ok i b' o e)]; exact h)
 | some k =>
   simp only [putX] at hp
   split at hp
   ·rename_i hk
    injection hp with hp
    subst hp
    simp only [Nat.blt_eq] at hk
    refine ⟨⟨hR.defers, ?_, fun i => ?_, fun i b' o h => ?_, fun i r j o h => ?_⟩, rfl⟩
    ·show (a.tmps.setIfInBounds k _).size = st.n
     rw [Array.size_setIfInBounds, hR.size]
    ·show (st.t.put k s).get i = .dead ∨ (a.tmps.setIfInBounds k (s.val X.R d'))[i]? = some (((st.t.put k s).get i).val X.R d')
     rcases Za8 st.t k i s with h | h
     ·exact .inl h
     ·by_cases he : k = i
      ·subst he
       rw [if_pos rfl] at h
       right
       rw [h, Array.getElem?_setIfInBounds, if_pos rfl, if_pos (by rw [hR.size]; exact hk)]
      ·rw [if_neg he] at h
       rw [h, Array.getElem?_setIfInBounds, if_neg he]
       rcases hR.slot i with h2 | h2
       ·exact .inl h2
       ·exact .inr (by rw [Slot.val_congr hd (fun b' o e => hR.ok i b' o e)]; exact h2)
    ·simp only at h
     rcases Za8 st.t k i s with h2 | h2
     ·rw [h2] at h; cases h
     ·rw [h2] at h
      split at h
      ·exact hs.1 b' o h
      ·exact Nat.lt_of_lt_of_le (hR.ok i b' o h) hl
    ·simp only at h
     rcases Za8 st.t k i s with h2 | h2
     ·rw [h2] at h; cases h
     ·rw [h2] at h
      split at h
      ·exact hs.2 r j o h
      ·exact hR.okE i r j o h
   ·cases hp
theorem Rel.known (hR : Rel X.R d st a) {k : Nat} {q : Bool} (hk : st.t.get k = .v (.bool q)) : Rel X.R d ⟨st.n, st.t.put k (.v (.bl q)), st.b⟩ a := by
 have hv : a.tmps[k]? = some (.bool q) := by
  rcases hR.slot k with h | h
  ·rw [hk] at h; cases h
  ·rw [hk] at h; exact h
 refine ⟨hR.defers, hR.size, fun i => ?_, fun i b' o h => ?_, fun i r j o h => ?_⟩
 ·show (st.t.put k _).get i = .dead ∨ _ = some (((st.t.put k (.v (.bl q))).get i).val X.R d)
  rcases Za8 st.t k i (.v (.bl q)) with h | h
  ·exact .inl h
  ·by_cases he : k = i
   ·subst he
    rw [if_pos rfl] at h
    right
    rw [h, hv]
    rfl
   ·rw [if_neg he] at h
    rw [h]
    exact hR.slot i
 ·simp only at h
  rcases Za8 st.t k i (.v (.bl q)) with h2 | h2
  ·rw [h2] at h; cases h
  ·rw [h2] at h
   split at h
   ·cases h
   ·exact hR.ok i b' o h
 ·simp only at h
  rcases Za8 st.t k i (.v (.bl q)) with h2 | h2
  ·rw [h2] at h; cases h
  ·rw [h2] at h
   split at h
   ·cases h
   ·exact hR.okE i r j o h
theorem ZaU (hR : Rel X.R d st a) {all : Array Oper} {o : Oper} {g : Bool} (h : Zbw all st o = .known g) : Region.wanted o (yielded all a.tmps) = g := by
 unfold Zbw at h
 unfold Region.wanted
 split at h
 ·rename_i hg
  injection h with h
  rw [hg]
  exact h
 ·rename_i j want hg
  rw [hg]
  simp only
  cases ha : all[j]? with
  | none => simp [ha] at h
  | some oj =>
    simp only [ha] at h
    cases hd : oj.dst with
    | none => simp [hd] at h
    | some k =>
      simp only [hd] at h
      have hy : ∀ v, a.tmps[k]? = some v → yielded all a.tmps j = (match v with | .bool b => some b | _ => none) := by
       intro v hv
       unfold yielded
       rw [ha]
       simp only [Option.bind_some, hd, hv]
       cases v <;> rfl
      split at h
      ·rename_i b hb
       rcases hR.slot k with h2 | h2
       ·rw [hb] at h2; cases h2
       ·rw [hb] at h2
        rw [hy _ h2]
        cases h
        cases b <;> cases want <;> rfl
      ·cases h
      ·rename_i hb
       rcases hR.slot k with h2 | h2
       ·rw [hb] at h2; cases h2
       ·rw [hb] at h2
        rw [hy _ h2]
        cases h
        cases want <;> rfl
      ·cases h
theorem Zdx (hR : Rel X.R d st a) {all : Array Oper} {o : Oper} {k : Nat} {q want : Bool} (h : Zbw all st o = .ask k q want) : st.t.get k = .v (.bool q) ∧ Region.wanted o (yielded all a.tmps) = (q == want) := by
 unfold Zbw at h
 unfold Region.wanted
 split at h
 ·cases h
 ·rename_i j want' hg
  rw [hg]
  simp only
  cases ha : all[j]? with
  | none => simp [ha] at h
  | some oj =>
    simp only [ha] at h
    cases hd : oj.dst with
    | none => simp [hd] at h
    | some k' =>
      simp only [hd] at h
      have hy : ∀ v, a.tmps[k']? = some v → yielded all a.tmps j = (match v with | .bool b => some b | _ => none) := by
       intro v hv
       unfold yielded
       rw [ha]
       simp only [Option.bind_some, hd, hv]
       cases v <;> rfl
      split at h
      ·cases h
      ·rename_i q' hb
       injection h with h1 h2 h3
       subst h1 h2 h3
       refine ⟨hb, ?_⟩
       rcases hR.slot k' with h2 | h2
       ·rw [hb] at h2; cases h2
       ·rw [hb] at h2
        rw [hy _ h2]
        cases q' <;> cases want' <;> rfl
      ·cases h
      ·cases h
theorem Zak.drawn {b : List (List AV)} (hr : Zak X.R d1 n1 w1 d b w) : Zak X.R d1 n1 w1 d b { w with drawn := w.drawn + 1 } :=
 ⟨hr.box, hr.inj, hr.len, hr.old, hr.new, ⟨hr.upd.os, hr.upd.tape, hr.upd.output, hr.upd.size, hr.upd.block⟩⟩
theorem ZbF (hX : CxOk P X d1 n1 w1) {all : Array Oper} {kont : St → Tr Leaf} {Q : Leaf → Prop} {Qa : Act → Prop} {b : List (List AV)}
 (hn1 : n1 ≤ b.length) (hk : ∀ st' a', Rel X.R d st' a' → st'.b = b → (kont st').holds Q → Qa a') : ∀ (l : List Oper) (st : St) (a : Act), Rel X.R d st a → st.b = b → (segQ X all kont l st).holds Q → wpQuiet P all (Zak X.R d1 n1 w1 d b) Qa l a
 | [], st, a, hR, hb, h => hk st a hR hb h
 | o :: l, st, a, hR, hb, h => by
   have go : ∀ (st : St) (g : Bool), Rel X.R d st a → st.b = b → Region.wanted o (yielded all a.tmps) = g → (opQ X (fun st => segQ X all kont l st) o g st).holds Q → wpQuiet P all (Zak X.R d1 n1 w1 d b) Qa (o :: l) a := by
    intro st g hR hb hw h
    unfold wpQuiet
    rw [hw]
    unfold opQ at h
    cases g with
    | false =>
      simp only [Bool.false_eq_true, if_false] at h ⊢
      split at h
      ·rename_i st' hp
       obtain ⟨h1, h2⟩ := hR.put (d' := d) (fun _ _ => rfl) (Nat.le_refl _) (SOk.v ..) hp
       exact ZbF hX hn1 hk l st' _ h1 (h2.trans hb) h
      ·exact h.elim
    | true =>
      simp only [if_true] at h ⊢
      by_cases hq : qOp X o st = .dead
      ·rw [hq] at h
       simp only at h
       split at h
       ·rename_i c s hn
        obtain ⟨hc, h⟩ := h
        subst hc
        split at h
        ·rename_i st' hp
         obtain ⟨h1, h2⟩ := ZbI hX hR hn
         obtain ⟨h3, h4⟩ := hR.put (d' := d) (fun _ _ => rfl) (Nat.le_refl _) (h2 _ (hb ▸ hn1)) hp
         exact ⟨_, fun w hw => Zdp (h1 w b hw) rfl, ZbF hX hn1 hk l st' _ h3 (h4.trans hb) h⟩
        ·exact h.elim
       ·exact h.elim
      ·obtain ⟨h1, h2⟩ := Zbg hX hR hq
       rw [hb] at h1
       split at h
       ·rename_i hd
        exact absurd hd hq
       ·split at h
        ·rename_i st' hp
         obtain ⟨h3, h4⟩ := hR.put (d' := d) (fun _ _ => rfl) (Nat.le_refl _) h2 hp
         exact ⟨_, fun w hw => (h1 w hw).quiet, ZbF hX hn1 hk l st' _ h3 (h4.trans hb) h⟩
        ·exact h.elim
   unfold segQ at h
   split at h
   ·rename_i g hg
    exact go st g hR hb (ZaU hR hg) h
   ·rename_i k q want hg
    obtain ⟨hk', hw⟩ := Zdx hR hg
    have hR' := hR.known hk'
    cases q with
    | true => exact go _ want hR' hb (by rw [hw]; cases want <;> rfl) (h.1 rfl)
    | false => exact go _ (!want) hR' hb (by rw [hw]; cases want <;> rfl) (h.2 rfl)
   ·exact h.elim
theorem Zc3 (W : List Nat) : ∀ (b : List (List AV)) (i : Nat), (Zay W i b).length = b.length
 | [], i => rfl
 | c :: b, i => by simp only [Zay, List.length_cons, Zc3 W b]
theorem Zb9 (W : List Nat) : ∀ (b : List (List AV)) (i j : Nat), (Zay W i b)[j]? = if W.contains (i + j) then (b[j]?).map (fun _ => []) else b[j]?
 | [], i, j => by simp [Zay]
 | c :: b, i, 0 => by
   simp only [Zay, List.getElem?_cons_zero, Nat.add_zero]
   split <;> simp
 | c :: b, i, j + 1 => by
   simp only [Zay, List.getElem?_cons_succ, Zb9 W b (i + 1) j]
   rw [show i + 1 + j = i + (j + 1) by omega]
theorem Zeg (W : List Nat) {k : Nat} (hk : W.contains k = true) (b : List (List AV)) (c : List AV) : Zay W 0 (b.set k c) = Zay W 0 b := by
 refine List.ext_getElem? fun j => ?_
 rw [Zb9, Zb9]
 by_cases he : k = j
 ·subst he
  rw [Nat.zero_add, hk]
  simp only [if_true]
  by_cases hlt : k < b.length
  ·rw [List.getElem?_set_self hlt, List.getElem?_eq_getElem hlt]; rfl
  ·rw [List.getElem?_eq_none (by rw [List.length_set]; omega), List.getElem?_eq_none (by omega)]
 ·rw [List.getElem?_set_ne he]
theorem Zec {n : Nat} {tm : Tm} {b : List (List AV)} {W : List Nat} {o : Oper} (hT : ∀ t i, X.T t = some i → i.zero ≠ []) (h : qOp X o ⟨n, tm, Zay W 0 b⟩ ≠ .dead) : qOp X o ⟨n, tm, b⟩ = qOp X o ⟨n, tm, Zay W 0 b⟩ := by
 have hev : ∀ x, ev ⟨n, tm, b⟩ x = ev ⟨n, tm, Zay W 0 b⟩ x := fun x => by cases x <;> rfl
 have hA : ∀ x, evA ⟨n, tm, b⟩ x = evA ⟨n, tm, Zay W 0 b⟩ x := fun x => by unfold evA; rw [hev]
 have hL : ∀ xs, evL ⟨n, tm, b⟩ xs = evL ⟨n, tm, Zay W 0 b⟩ xs := by
  intro xs
  induction xs with
  | nil => rfl
  | cons x xs ih => simp only [evL, hA, ih]
 have hAll : ∀ xs, Zdz ⟨n, tm, b⟩ xs = Zdz ⟨n, tm, Zay W 0 b⟩ xs := by
  intro xs
  induction xs with
  | nil => rfl
  | cons x xs ih => obtain ⟨i, x⟩ := x; simp only [Zdz, hA, ih]
 unfold qOp at h ⊢
 simp only [hev, hA, hL, hAll] at h ⊢
 split at h <;> try rfl
 rename_i t x ho
 cases hTt : X.T t with
 | none => rfl
 | some i =>
   try simp only [hTt] at h ⊢
   split at h
   ·rename_i k off he
    try simp only [he] at h ⊢
    rw [Zb9] at h ⊢
    rw [Nat.zero_add] at h ⊢
    by_cases hw : W.contains k = true
    ·rw [if_pos hw] at h
     exfalso
     cases hb : b[k]? with
     | none => simp [hb] at h
     | some cs =>
       simp only [hb, Option.map_some] at h
       have hz := hT t i hTt
       cases hag : i.ag with
       | true =>
         simp only [hag, if_true] at h
         split at h
         ·rename_i hle
          simp only [Nat.ble_eq, List.length_nil] at hle
          have : i.zero.length = 0 := by omega
          exact hz (List.length_eq_zero_iff.1 this)
         ·exact h rfl
       | false => simp [hag] at h
    ·rw [if_neg hw]
   ·rename_i r k off he
    simp only [he]
   ·exact absurd rfl h
theorem Zak.congr {b : List (List AV)} (hr : Zak X.R d1 n1 w1 d b w) {d' : Nat → Nat} (hd : ∀ i, i < b.length → d' i = d i) : Zak X.R d1 n1 w1 d' b w := by
 refine ⟨fun i cs hi => ?_, fun i j hi hj e => hr.inj i j hi hj (by rw [← hd i hi, ← hd j hj]; exact e), hr.len, fun i hi => ?_, fun i h1 h2 => ?_, hr.upd⟩
 ·rw [hd i (List.getElem?_eq_some_iff.1 hi).1]
  exact hr.box i cs hi
 ·rw [hd i (Nat.lt_of_lt_of_le hi hr.len)]
  exact hr.old i hi
 ·rw [hd i h2]
  exact hr.new i h1 h2
theorem ZaR (hP : ∀ c a w dst v, Qf (.panic c) (a.put dst v) w → Qf (.panic c) a w) : ∀ (K : List KI) (c : List PanicEntry) (a : Act) (w : World) (dst : Option Tmp) (v : Value), wpK P Qf K (.panic c) (a.put dst v) w → wpK P Qf K (.panic c) a w
 | [], c, a, w, dst, v, h => hP c a w dst v h
 | .code _ :: K, c, a, w, dst, v, h => ZaR hP K c a w dst v h
 | .ops _ _ :: K, c, a, w, dst, v, h => ZaR hP K c a w dst v h
 | .blk _ :: K, c, a, w, dst, v, h => ZaR hP K c a w dst v h
 | .mk _ _ :: K, c, a, w, dst, v, h => ZaR hP K c a w dst v h
theorem ZbZ : ∀ (l : List Oper) (k : Nat) (x : Nat × Oper), x ∈ Zcp k l → k ≤ x.1 ∧ l[x.1 - k]? = some x.2
 | [], k, x, h => by cases h
 | o :: l, k, x, h => by
   rcases List.mem_cons.1 h with rfl | h
   ·simp
   ·obtain ⟨h1, h2⟩ := ZbZ l (k + 1) x h
    refine ⟨by omega, ?_⟩
    rw [show x.1 - k = (x.1 - (k + 1)) + 1 by omega]
    simpa using h2
theorem ZcX (L : List Nat) : ∀ (p past : List (Nat × Oper)) (x : Nat × Oper) (r : List (Nat × Oper)), Zez L past p = some (x, r) → ∀ y, (y = x ∨ y ∈ r) → y ∈ past ∨ y ∈ p
 | [], past, x, r, h, y, hy => by simp [Zez] at h
 | (i, o) :: p, past, x, r, h, y, hy => by
   simp only [Zez] at h
   split at h
   ·injection h with h
    injection h with h1 h2
    subst h1 h2
    rcases hy with rfl | hy
    ·exact .inr (by simp)
    ·rcases List.mem_append.1 hy with hy | hy
     ·exact .inl (List.mem_reverse.1 hy)
     ·exact .inr (List.mem_cons_of_mem _ hy)
   ·rcases ZcX L p ((i, o) :: past) x r h y hy with h2 | h2
    ·rcases List.mem_cons.1 h2 with rfl | h2
     ·exact .inr (by simp)
     ·exact .inl h2
    ·exact .inr (List.mem_cons_of_mem _ h2)
theorem Zco (L : List Nat) : ∀ (p past : List (Nat × Oper)) (x : Nat × Oper) (r : List (Nat × Oper)), ZcM L past p = some (x, r) → ∀ y, (y = x ∨ y ∈ r) → y ∈ past ∨ y ∈ p
 | [], past, x, r, h, y, hy => by simp [ZcM] at h
 | (i, o) :: p, past, x, r, h, y, hy => by
   simp only [ZcM] at h
   split at h
   ·injection h with h
    injection h with h1 h2
    subst h1 h2
    rcases hy with rfl | hy
    ·exact .inr (by simp)
    ·rcases List.mem_append.1 hy with hy | hy
     ·exact .inl (List.mem_reverse.1 hy)
     ·exact .inr (List.mem_cons_of_mem _ hy)
   ·rcases Zco L p ((i, o) :: past) x r h y hy with h2 | h2
    ·rcases List.mem_cons.1 h2 with rfl | h2
     ·exact .inr (by simp)
     ·exact .inl h2
    ·exact .inr (List.mem_cons_of_mem _ h2)
theorem ZbN : ∀ (n : Nat) (L : List Nat) (p : List (Nat × Oper)) (y : Nat × Oper), y ∈ Zdl n L p → y ∈ p
 | 0, L, p, y, h => by cases h
 | n + 1, L, p, y, h => by
   unfold Zdl at h
   split at h
   ·rename_i x r hp
    rcases List.mem_cons.1 h with rfl | h
    ·rcases ZcX L p [] _ _ hp _ (.inl rfl) with h2 | h2
     ·cases h2
     ·exact h2
    ·rcases ZcX L p [] _ _ hp y (.inr (ZbN n _ _ _ h)) with h2 | h2
     ·cases h2
     ·exact h2
   ·split at h
    ·rename_i x r hp
     rcases List.mem_cons.1 h with rfl | h
     ·rcases Zco L p [] _ _ hp _ (.inl rfl) with h2 | h2
      ·cases h2
      ·exact h2
     ·rcases Zco L p [] _ _ hp y (.inr (ZbN n _ _ _ h)) with h2 | h2
      ·cases h2
      ·exact h2
    ·cases h
theorem Zak.drop {R : Nat → Row} {b r : List (List AV)} (hr : Zak R d1 n1 w1 d (b ++ r) w) (hn : n1 ≤ b.length) : Zak R d1 n1 w1 d b w :=
 ⟨fun i cs h => hr.box i cs (by rw [List.getElem?_append_left (List.getElem?_eq_some_iff.1 h).1]; exact h), fun i j hi hj => hr.inj i j (by simp; omega) (by simp; omega), hn, hr.old, fun i h1 h2 => hr.new i h1 (by simp; omega), hr.upd⟩
theorem ZcI {d2 : Nat → Nat} {n2 : Nat} {w2 : World} (hX2 : CxOk P X d2 n2 w2) {C : World → Prop} {ops : Array Oper} {K : List KI} {kont : St → Tr Leaf} {Q : Leaf → Prop} {b0 : List (List AV)} {d0 : Nat → Nat} (hn0 : n2 ≤ b0.length)
 (hC : ∀ (r : List (List AV)) (dc : Nat → Nat), (∀ i, i < b0.length → dc i = d0 i) → ∀ w', Zak X.R d2 n2 w2 dc (b0 ++ r) w' → C w')
 (hk : ∀ d st' a' w', Rel X.R d st' a' → Zak X.R d2 n2 w2 d st'.b w' → (kont st').holds Q → wpK P Qf K .normal a' w') :
 ∀ (l : List (Nat × Oper)) (li : Array Bool) (st : St) (dc : Nat → Nat) (a : Act) (w : World) (r : List (List AV)), (∀ x ∈ l, ops[x.1]? = some x.2) → Za7 ops (hand ops.toList) (dsOf ops.toList) l li = true → Rel X.R dc st a → Zak X.R d2 n2 w2 dc st.b w → st.b = b0 ++ r → (∀ i, i < b0.length → dc i = d0 i) → (segA X (hand ops.toList) (dsOf ops.toList) b0.length kont l st).holds Q →
  wpAnyLast P .any ops (wpK P Qf K) C (dsOf ops.toList) l.length li a w
 | [], li, st, dc, a, w, r, hm, hs, hR, hr, hb, hd, h => by
   simp only [Za7, beq_iff_eq] at hs
   exact wpAnyLast_done hs (hk dc st a w hR hr h) 0
 | (i, o) :: l, li, st, dc, a, w, r, hm, hs, hR, hr, hb, hd, h => by
   have ho : ops[i]? = some o := hm (i, o) (by simp)
   have hm' : ∀ x ∈ l, ops[x.1]? = some x.2 := fun x hx => hm x (by simp [hx])
   unfold segA at h
   split at h
   ·exact h.elim
   rename_i hH
   simp only [Bool.or_eq_true, not_or] at hH
   have hD : i ∉ dsOf ops.toList := by simpa using hH.2
   obtain ⟨hc, hs'⟩ := ZbO hs (by simpa using hH.1)
   split at h
   ·exact h.elim
   rename_i hg
   have hwant : Region.wanted o (yielded ops a.tmps) = true := by unfold Region.wanted; rw [hg]
   split at h
   ·rename_i t x y hop
    rw [if_pos (by simp [isSt, hop])] at hc
    split at h
    ·rename_i k off he
     split at h
     ·rename_i hL
      rw [Nat.ble_eq] at hL
      split at h
      ·rename_i s b' hex
       split at h
       ·rename_i st' hp
        have hbs : ∃ cs, b' = st.b.set k cs := by
         unfold exOp at hex
         have hqd : qOp X o st = .dead := by unfold qOp; rw [hop]
         have hqn : ZbR X o st = none := by unfold ZbR; rw [hop]
         rw [hqd, hqn] at hex
         simp only [hop] at hex
         cases hT : X.T t with
         | none => simp [hT] at hex
         | some ii =>
           simp only [hT, he] at hex
           split at hex
           ·split at hex
            ·split at hex
             ·injection hex with e1 e2
              exact ⟨_, e2.symm⟩
             ·cases hex
            ·cases hex
           ·cases hex
        obtain ⟨cs, rfl⟩ := hbs
        refine one_ _ ho rfl hc hD fun K' hK => ?_
        rw [if_pos hwant]
        refine Zcu hX2 hR hr (.inl hex) (fun d' w' hd' hr' hl hso => ?_)
        have hr2 := hr'.congr (d' := dc) (fun i hi => (hd' i (by simpa using hi)).symm)
        obtain ⟨h1, h2⟩ := hR.put hd' hl hso hp
        have e : st.b.set k cs = b0 ++ r.set (k - b0.length) cs := by rw [hb, List.set_append_right _ _ hL]
        have hdd : ∀ i, i < b0.length → d' i = d0 i := fun i hi => (hd' i (by rw [hb, List.length_append]; omega)).trans (hd i hi)
        exact hK _ _ (hC _ d' hdd w' (e ▸ hr')) (fun _ => ZcI hX2 hn0 hC hk l _ st' d' _ w' _ hm' hs' h1 (h2 ▸ hr') (h2.trans e) hdd h)
       ·exact h.elim
      ·exact h.elim
     ·exact h.elim
    ·exact h.elim
   ·exact h.elim
theorem Za5 {d2 : Nat → Nat} {n2 : Nat} {w2 : World} (hX : CxOk P X d1 n1 w1) (hX2 : CxOk P X d2 n2 w2) (h21 : ∀ b w, Zak X.R d2 n2 w2 d b w → Zak X.R d1 n1 w1 d b w) (hP : ∀ c a w dst v, Qf (.panic c) (a.put dst v) w → Qf (.panic c) a w) {ops : Array Oper} {W : List Nat} {K : List KI} {kont : St → Tr Leaf} {mk : List (Nat × Oper) → St → Tr Leaf} {Q : Leaf → Prop} {m0 : List (List AV)}
 (hk : ∀ d st' a' w', Rel X.R d st' a' → Zak X.R d2 n2 w2 d st'.b w' → (kont st').holds Q → wpK P Qf K .normal a' w')
 (hL : ∀ (l : List (Nat × Oper)) (li : Array Bool) (st : St) (a : Act) (w : World), (∀ x ∈ l, ops[x.1]? = some x.2) → Za7 ops (hand ops.toList) (dsOf ops.toList) l li = true → Rel X.R d st a → Zak X.R d2 n2 w2 d st.b w → Zay W 0 st.b = m0 → (mk l st).holds Q → wpAnyLast P .any ops (wpK P Qf K) (fun w => ∃ b, Zak X.R d1 n1 w1 d b w ∧ Zay W 0 b = m0) (dsOf ops.toList) l.length li a w) :
 ∀ (l : List (Nat × Oper)) (li : Array Bool) (st : St) (a : Act) (w : World), (∀ x ∈ l, ops[x.1]? = some x.2) → Za7 ops (hand ops.toList) (dsOf ops.toList) l li = true → Rel X.R d st a → Zak X.R d2 n2 w2 d st.b w → Zay W 0 st.b = m0 → (segS X (hand ops.toList) (dsOf ops.toList) W kont mk l st).holds Q →
  wpAnyLast P .any ops (wpK P Qf K) (fun w => ∃ b, Zak X.R d1 n1 w1 d b w ∧ Zay W 0 b = m0) (dsOf ops.toList) l.length li a w
 | [], li, st, a, w, hm, hs, hR, hr, hb, h => by
   simp only [Za7, beq_iff_eq] at hs
   exact wpAnyLast_done hs (hk d st a w hR hr h) 0
 | (i, o) :: l, li, st, a, w, hm, hs, hR, hr, hb, h => by
   have ho : ops[i]? = some o := hm (i, o) (by simp)
   have hm' : ∀ x ∈ l, ops[x.1]? = some x.2 := fun x hx => hm x (by simp [hx])
   have hs0 := hs
   have hz : ∀ t i, X.T t = some i → i.zero ≠ [] := fun t i hT he => by
    have := (hX.T t i hT).size
    obtain ⟨it, z, h1, h2, h3⟩ := (hX.T t i hT).zero X.R
    exact hX.nz t i hT he
   unfold segS at h
   split at h
   ·exact hL ((i, o) :: l) li st a w hm hs0 hR hr hb h
   rename_i hH
   obtain ⟨hc, hs'⟩ := ZbO hs (by simpa using hH)
   split at h
   ·exact h.elim
   rename_i hD'
   have hD : i ∉ dsOf ops.toList := by simpa using hD'
   split at h
   ·exact h.elim
   rename_i hg
   have hwant : Region.wanted o (yielded ops a.tmps) = true := by unfold Region.wanted; rw [hg]
   by_cases hst : isSt o = true
   ·rw [if_pos hst] at h
    rw [if_pos (by simp [hst])] at hc
    split at h
    ·rename_i t x y hop
     split at h
     ·rename_i k off he
      split at h
      ·rename_i hW
       split at h
       ·rename_i s b' hex
        split at h
        ·rename_i st' hp
         refine one_ _ ho rfl hc hD fun K' hK => ?_
         rw [if_pos hwant]
         have hbs : ∃ cs, b' = st.b.set k cs ∧ s = .v .und := by
          unfold exOp at hex
          have hqd : qOp X o st = .dead := by unfold qOp; rw [hop]
          have hqn : ZbR X o st = none := by unfold ZbR; rw [hop]
          rw [hqd, hqn] at hex
          simp only [hop] at hex
          cases hT : X.T t with
          | none => simp [hT] at hex
          | some ii =>
            simp only [hT, he] at hex
            split at hex
            ·split at hex
             ·split at hex
              ·injection hex with e1 e2
               exact ⟨_, e2.symm, e1.symm⟩
              ·cases hex
             ·cases hex
            ·cases hex
         obtain ⟨cs, rfl, rfl⟩ := hbs
         refine Zcu hX2 hR hr (.inl hex) (fun d' w' hd hr' hl hso => ?_)
         have hr2 := hr'.congr (d' := d) (fun i hi => (hd i (by simpa using hi)).symm)
         obtain ⟨h1, h2⟩ := hR.put (d' := d) (fun _ _ => rfl) hl hso hp
         have hmk : Zay W 0 st'.b = m0 := by rw [h2, Zeg W hW, hb]
         exact hK _ _ ⟨_, h21 _ _ hr2, by rw [Zeg W hW, hb]⟩ (fun _ => Za5 hX hX2 h21 hP hk hL l _ st' _ w' hm' hs' h1 (h2 ▸ hr2) hmk h)
        ·exact h.elim
       ·exact h.elim
      ·exact h.elim
     ·exact h.elim
    ·exact h.elim
   ·rw [if_neg hst] at h
    by_cases hq : qOp X o ⟨st.n, st.t, Zay W 0 st.b⟩ = .dead
    ·rw [hq] at h
     simp only at h
     cases hne : ZbR X o st with
     | some cs =>
       obtain ⟨c, s⟩ := cs
       simp only [hne] at h
       obtain ⟨hct, h⟩ := h
       subst hct
       have hops : isFn o = false ∧ isAl o = false := by
        unfold ZbR at hne
        split at hne
        ·rename_i hop; exact ⟨Zbx hop rfl, by unfold isAl; rw [hop]⟩
        ·rename_i hop; exact ⟨Zbx hop rfl, by unfold isAl; rw [hop]⟩
        ·cases hne
       have hst' : isSt o = false := by simpa using hst
       rw [if_neg (by simp [hops.1, hops.2, hst'])] at hc
       obtain ⟨g1, g2⟩ := ZbI hX hR hne
       split at h
       ·rename_i st' hp
        obtain ⟨h1, h2⟩ := hR.put (d' := d) (fun _ _ => rfl) (Nat.le_refl _) (g2 _ (h21 _ _ hr).len) hp
        exact take_ (v := s.val X.R d) _ ho rfl hc (fun c a w h => ZaR hP K c a w _ _ h) (.inl ⟨hwant, fun w' ⟨b', hr', hb'⟩ => g1 w' b' hr'⟩) ⟨st.b, h21 _ _ hr, hb⟩ rfl (Za5 (m0 := m0) hX hX2 h21 hP hk hL l _ st' _ w hm' hs' h1 (h2 ▸ hr) (by rw [h2]; exact hb) h)
       ·exact h.elim
     | none =>
     simp only [hne] at h
     split at h
     ·exact hL ((i, o) :: l) li st a w hm hs0 hR hr hb h
     ·split at h
      ·rename_i hal
       rw [if_pos (by simp [hal])] at hc
       split at h
       ·rename_i s b' hex
        split at h
        ·rename_i st' hp
         have hbs : ∃ cs, b' = st.b ++ [cs] := by
          unfold isAl at hal
          split at hal
          ·rename_i t hop
           unfold exOp at hex
           have hqd : qOp X o st = .dead := by unfold qOp; rw [hop]
           have hqn : ZbR X o st = none := by unfold ZbR; rw [hop]
           rw [hqd, hqn] at hex
           simp only [hop] at hex
           split at hex
           ·injection hex with e1 e2
            exact ⟨_, e2.symm⟩
           ·cases hex
          ·cases hal
         obtain ⟨cs, rfl⟩ := hbs
         refine one_ _ ho rfl hc hD fun K' hK => ?_
         rw [if_pos hwant]
         refine Zcu hX2 hR hr (.inl hex) (fun d' w' hd hr' hl hso => ?_)
         obtain ⟨h1, h2⟩ := hR.put hd hl hso hp
         have inv : ∀ w', Zak X.R d2 n2 w2 d' (st.b ++ [cs]) w' → ∃ b, Zak X.R d1 n1 w1 d b w' ∧ Zay W 0 b = m0 := fun w' hw => ⟨st.b, h21 _ _ ((hw.drop hr.len).congr fun i hi => (hd i hi).symm), hb⟩
         exact hK _ _ (inv _ hr') (fun _ => ZcI hX2 (C := fun w => ∃ b, Zak X.R d1 n1 w1 d b w ∧ Zay W 0 b = m0) (b0 := st.b) hr.len (fun r dc hdc w' hw => ⟨st.b, h21 _ _ ((hw.drop hr.len).congr fun i hi => ((hdc i hi).trans (hd i hi)).symm), hb⟩) hk l _ st' d' _ w' [cs] hm' hs' h1 (h2 ▸ hr') h2 (fun _ _ => rfl) h)
        ·exact h.elim
       ·exact h.elim
      ·exact h.elim
    ·have via : ∃ st', putX st o.dst (qOp X o ⟨st.n, st.t, Zay W 0 st.b⟩) st.b = some st' ∧ (segS X (hand ops.toList) (dsOf ops.toList) W kont mk l st').holds Q := by
      revert h
      generalize qOp X o ⟨st.n, st.t, Zay W 0 st.b⟩ = s at hq
      intro h
      cases s with
      | dead => exact absurd rfl hq
      | _ =>
        simp only at h
        split at h
        ·rename_i st' hp
         exact ⟨st', hp, h⟩
        ·exact h.elim
     obtain ⟨st', hp, hh⟩ := via
     have hat : ∀ {e1 : Nat → Nat} {m1 : Nat} {v1 : World}, CxOk P X e1 m1 v1 → ∀ w' b', Zak X.R e1 m1 v1 d b' w' → Zay W 0 b' = m0 → QAt P a o (Zak X.R e1 m1 v1 d b') w' ((qOp X o ⟨st.n, st.t, Zay W 0 st.b⟩).val X.R d) := by
      intro e1 m1 v1 hX w' b' hr' hb'
      have hlen : b'.length = st.b.length := by rw [← Zc3 W b' 0, hb', ← hb, Zc3]
      have hR' : Rel X.R d ⟨st.n, st.t, b'⟩ a := ⟨hR.defers, hR.size, hR.slot, fun i b o h => (hlen ▸ hR.ok i b o h : b < b'.length), hR.okE⟩
      have hmo := Zec (X := X) (n := st.n) (tm := st.t) (b := b') (W := W) (o := o) hz (by rw [hb', ← hb]; exact hq)
      have := (Zbg hX hR' (o := o) (by rw [hmo, hb', ← hb]; exact hq)).1 w' hr'
      rw [hmo, hb', ← hb] at this
      exact this
     have hso : SOk X.R st.b.length (qOp X o ⟨st.n, st.t, Zay W 0 st.b⟩) := by
      have hmo := Zec (X := X) (n := st.n) (tm := st.t) (b := st.b) (W := W) (o := o) hz hq
      rw [← hmo]
      exact (Zbg hX hR (o := o) (by rw [show qOp X o st = _ from hmo]; exact hq)).2
     obtain ⟨h1, h2⟩ := hR.put (d' := d) (fun _ _ => rfl) (Nat.le_refl _) hso hp
     have hmb : Zay W 0 st'.b = m0 := by rw [h2]; exact hb
     have next := fun w' (hr' : Zak X.R d2 n2 w2 d st.b w') => Za5 (m0 := m0) hX hX2 h21 hP hk hL l (li.setIfInBounds i true) st' _ w' hm' hs' h1 (h2 ▸ hr') hmb hh
     have hna : isAl o = false := by
      cases hal : isAl o with
      | false => rfl
      | true =>
        unfold isAl at hal
        split at hal
        ·rename_i t hop
         exact absurd (by unfold qOp; rw [hop]) hq
        ·cases hal
     by_cases hfn : isFn o = true
     ·rw [if_pos (by simp [hfn])] at hc
      refine one_ _ ho rfl hc hD fun K' hK => ?_
      rw [if_pos hwant]
      exact Oper.wp_of_quiet (C := Zak X.R d2 n2 w2 d st.b) (K := fun a' => ∀ w', Zak X.R d2 n2 w2 d st.b w' → K' a' w') hr (fun a' w' hw' hk => hk w' hw') ⟨_, fun w' hw' => (hat hX2 w' st.b hw' hb).quiet, fun w' hw' => hK _ _ ⟨_, h21 _ _ hw', hb⟩ (fun _ => next w' hw')⟩
     ·have hfn' : isFn o = false := by simpa using hfn
      rw [if_neg (by simp [hfn', hst, hna])] at hc
      refine take_ (v := (qOp X o ⟨st.n, st.t, Zay W 0 st.b⟩).val X.R d) _ ho rfl hc (fun c a w h => ZaR hP K c a w _ _ h) (.inl ⟨hwant, fun w' ⟨b', hr', hb'⟩ => ?_⟩) ⟨st.b, h21 _ _ hr, hb⟩ rfl (next w hr)
      have := hat hX w' b' hr' hb'
      unfold QAt at this
      rw [hfn', if_neg (by simp)] at this
      exact this
theorem ZaS (hP : ∀ c a w dst v, Qf (.panic c) (a.put dst v) w → Qf (.panic c) a w) (hm : P.follows .mixedOrders = true) (hX : CxOk P X d1 n1 w1) {Q : Leaf → Prop} (hQ : ∀ l, Q l → l.kok → ∀ d a w, Rel X.R d l.st a → Zak X.R d1 n1 w1 d l.st.b w → Zf0 P X d1 n1 w1 d Qf l a w) :
 ∀ (n : Nat) (K : List KI) (st : St) (d : Nat → Nat) (a : Act) (w : World), KOk K → Rel X.R d st a → Zak X.R d1 n1 w1 d st.b w → (seg X n K st).holds Q → wpK P Qf K .normal a w
 | 0, K, st, d, a, w, hK, hR, hr, h => hQ _ h hK d a w hR hr
 | n + 1, K, st, d, a, w, hK, hR, hr, h => by
   have IH := ZaS hP hm hX hQ n
   unfold seg at h
   split at h
   ·exact (hQ _ h trivial d a w hR hr).2
   ·rename_i id K
    exact IH K st d a w hK hR hr h
   ·rename_i all K
    exact IH K st d a w hK hR hr h
   ·rename_i k c K
    exact hQ _ h hK d a w hR hr
   ·rename_i all o l K
    have run : ∀ (st : St), Rel X.R d st a → Zak X.R d1 n1 w1 d st.b w → Region.wanted o (yielded all a.tmps) = true → ∀ s b, (exOp X o st = .ok s b ∨ exOp X o st = .need true s b) → ∀ st', putX st o.dst s b = some st' → (seg X n (.ops all l :: K) st').holds Q → wpK P Qf (.ops all (o :: l) :: K) .normal a w := by
     intro st hR hr hw s b hs st' hp hh
     show wpList P all (wpK P Qf K) (o :: l) a w
     unfold wpList
     rw [hw, if_pos rfl]
     refine .inl (Zcu hX hR hr hs (fun d' w' hd hr' hl hso => ?_))
     obtain ⟨h1, h2⟩ := hR.put hd hl hso hp
     exact IH (.ops all l :: K) st' d' _ w' hK h1 (h2 ▸ hr') hh
    split at h
    ·rename_i hg
     split at h
     ·rename_i s b he
      split at h
      ·rename_i st' hp
       exact run st hR hr (ZaU hR hg) s b (.inl he) st' hp h
      ·exact h.elim
     ·rename_i c s b he
      obtain ⟨h1, h2⟩ := h
      subst h1
      split at h2
      ·rename_i st' hp
       exact run st hR hr (ZaU hR hg) s b (.inr he) st' hp h2
      ·exact h2.elim
     ·exact hQ _ h hK d a w hR hr
    ·rename_i hg
     split at h
     ·rename_i st' hp
      show wpList P all (wpK P Qf K) (o :: l) a w
      unfold wpList
      rw [ZaU hR hg, if_neg (by simp)]
      obtain ⟨h1, h2⟩ := hR.put (d' := d) (fun _ _ => rfl) (Nat.le_refl _) (SOk.v ..) hp
      exact IH (.ops all l :: K) st' d _ w hK h1 (h2 ▸ hr) h
     ·exact h.elim
    ·rename_i k q want hg
     have hR' := hR.known (Zdx hR hg).1
     cases q with
     | true => exact IH (.ops all (o :: l) :: K) _ d a w hK hR' hr (h.1 rfl)
     | false => exact IH (.ops all (o :: l) :: K) _ d a w hK hR' hr (h.2 rfl)
    ·exact h.elim
   ·rename_i c K
    obtain ⟨hc, hK⟩ := hK
    show c.wp P (wpK P Qf K) a w
    split at h
    ·exact wp_skip (IH K st d a w hK hR hr h)
    ·rename_i x y
     simp only [ZaB, Bool.and_eq_true] at hc
     refine wp_seq (Code.wp_mono (fun e a w => ZeP K y e a w) ?_)
     exact IH (.code x :: .code y :: K) st d a w ⟨hc.1, hc.2, hK⟩ hR hr h
    ·rename_i id ops
     exact wp_region_list (IH (.ops ops ops.toList :: K) st d a w hK hR hr h)
    ·rename_i id ops
     by_cases hst : ops.toList.any isDr = true
     ·simp only [ZaB] at hc
      rw [if_pos hst] at h hc
      refine wp_region_any hm (wpAny_of_last (S := fun w => ∃ b, Zak X.R d1 n1 w1 d b w ∧ Zay (if (dsOf ops.toList).isEmpty then wrOf X (ZbP ops.toList) st else []) 0 b = Zay (if (dsOf ops.toList).isEmpty then wrOf X (ZbP ops.toList) st else []) 0 st.b) (ds := dsOf ops.toList) _ _ _ _ ?_)
      simp only [Bool.and_eq_true, beq_iff_eq] at hc
      obtain ⟨hlen, hc⟩ := hc
      rw [show ops.size = (ZbP ops.toList).length from hlen.symm]
      rw [show ops.size = (ZbP ops.toList).length from hlen.symm] at hc
      refine Za5 hX hX (fun _ _ h => h) hP (fun d' st' a' w' hR' hr' hh => IH K st' d' a' w' hK hR' hr' hh) (fun l li s a w hm hs hR hr hb hh => hb ▸ hQ _ hh hK d a w hR hr li hs hm) (ZbP ops.toList) _ st a _ (fun x hx => ?_) hc hR hr.drawn rfl h
      obtain ⟨-, h2⟩ := ZbZ ops.toList 0 x (ZbN _ _ _ _ hx)
      simpa using h2
     ·simp only [ZaB] at hc
      rw [if_neg hst] at h hc
      refine wp_region_quiet (C := Zak X.R d1 n1 w1 d st.b) hm hc hr.drawn ?_
      refine ZbF hX hr.len (fun st' a' hR' hb hh => ?_) ops.toList st a hR rfl h
      intro w' hw'
      exact IH K st' d a' w' hK hR' (hb ▸ hw') hh
    ·rename_i c x y
     simp only [ZaB, Bool.and_eq_true] at hc
     split at h
     ·rename_i he
      have hv := Za9 hR (x := c) (by rw [he]; simp)
      rw [he] at hv
      exact wp_cond_true hv (IH (.code x :: K) st d a w ⟨hc.1, hK⟩ hR hr h)
     ·rename_i he
      have hv := Za9 hR (x := c) (by rw [he]; simp)
      rw [he] at hv
      exact wp_cond_false hv (IH (.code y :: K) st d a w ⟨hc.2, hK⟩ hR hr h)
     ·rename_i q he
      have hv := Za9 hR (x := c) (by rw [he]; simp)
      rw [he] at hv
      split at h
      ·rename_i k
       have hR' := hR.known (k := k) (q := q) he
       cases q with
       | true => exact wp_cond_true hv (IH (.code x :: K) _ d a w ⟨hc.1, hK⟩ hR' hr (h.1 rfl))
       | false => exact wp_cond_false hv (IH (.code y :: K) _ d a w ⟨hc.2, hK⟩ hR' hr (h.2 rfl))
      ·exact h.elim
     ·exact h.elim
    ·rename_i id b
     refine wp_block (Code.wp_mono (fun e a w => Zfv K id e a w) ?_)
     exact IH (.code b :: .blk id :: K) st d a w ⟨hc, hK⟩ hR hr h
    ·rename_i id
     split at h
     ·rename_i K' hp
      exact wp_exit (ZbK K K' a w hp (IH K' st d a w (Zcx K K' hp hK) hR hr h))
     ·exact h.elim
    ·exact wp_ret (Zce K a w (hQ _ h trivial d a w hR hr).1)
    ·exact hQ _ h ⟨hc, hK⟩ d a w hR hr
end
end Go.Proofs.YtgghglocfdcegaaGreat.Xec
namespace Go.Proofs.YtgghglocfdcegaaGreat.Xec
open Go Go.RowKit
set_option linter.unusedVariables false
set_option linter.unusedSimpArgs false
section
variable {P : Program} {X : Cx} {d1 : Nat → Nat} {n1 : Nat} {w1 : World} {d : Nat → Nat} {st : St} {a : Act} {w : World}
def rvs (tmps : Array Value) : ResultVar → Sem Value
 | .tmp t => pure (tmps.getD t undef)
 | .cell q t => do loadVar t (← asAddr (tmps.getD q undef))
theorem Zex (fn : Func) (tmps : Array Value) : results fn tmps = (do
 let vs ← fn.results.mapM (rvs tmps)
 pure (if h : vs.size = 1 then vs[0] else .tuple vs)) := by
 have : (fun x => match x with
  | .tmp t => pure (tmps.getD t undef)
  | .cell q t => do loadVar t (← asAddr (tmps.getD q undef)) : ResultVar → Sem Value) = rvs tmps := by
  funext r
  cases r <;> rfl
 rw [← this]
 rfl
theorem Zfq (hX : CxOk P X d1 n1 w1) (hR : Rel X.R d st a) (hr : Zak X.R d1 n1 w1 d st.b w) {r : ResultVar} {v : AV} (h : resX X st r = some v) :
 (rvs a.tmps r).run P w = .ok (v.v X.R) w := by
 have at_ : ∀ k, st.t.get k ≠ .dead → a.tmps.getD k undef = (st.t.get k).val X.R d := by
  intro k hk
  rcases hR.slot k with h | h
  ·exact absurd h hk
  ·rw [Array.getD_eq_getD_getElem?, h]; rfl
 cases r with
 | tmp t =>
   simp only [resX] at h
   split at h
   ·rename_i x hx
    injection h with h
    subst h
    have := at_ t (by rw [hx]; simp)
    rw [hx] at this
    simp only [rvs, this]
    rfl
   ·cases h
 | cell q t =>
   simp only [resX] at h
   cases hT : X.T t with
   | none => simp [hT] at h
   | some i =>
     simp only [hT] at h
     split at h
     ·rename_i b hb
      have hq := at_ q (by rw [hb]; simp)
      rw [hb] at hq
      cases hwn : (X.R b).wn with
      | true => simp [hwn] at h
      | false =>
      simp only [hwn, Bool.false_eq_true, if_false] at h
      obtain ⟨hp1, hp2⟩ := hX.W b hwn
      cases hc : st.b[b]? with
      | none => simp [hc] at h
      | some cs =>
        simp only [hc] at h
        split at h
        ·rename_i hag
         injection h with h
         subst h
         simp only [Bool.and_eq_true, beq_iff_eq] at hag
         obtain ⟨ty, -, ht⟩ := hr.box b cs hc
         rw [hp1, hp2, List.nil_append, List.append_nil] at ht
         simp only [Slot.val, hp1, List.length_nil, Nat.add_zero] at hq
         have := Zc4 (hX.T t i hT) hag.1 (g := d b) (o := 0) (w := w) (AV.vs X.R cs) (by rw [Zbz, hag.2]) (fun j v hj => by
          rw [Nat.zero_add, cell_of_row w (d b) j _ ty (0, 0) ht]
          simpa using hj)
         simp only [rvs, hq, Slot.val, asAddr]
         simpa [AV.v] using this
        ·cases h
     ·cases h
theorem ZcT (hX : CxOk P X d1 n1 w1) (hR : Rel X.R d st a) (hr : Zak X.R d1 n1 w1 d st.b w) : ∀ {rs : List ResultVar} {l : List AV}, resL X st rs = some l →
 (rs.mapM (rvs a.tmps)).run P w = .ok (AV.vs X.R l) w
 | [], l, h => by
   injection h with h
   subst h
   rfl
 | r :: rs, l, h => by
   unfold resL at h
   split at h
   ·rename_i v l' h1 h2
    injection h with h
    subst h
    have e1 := Zfq hX hR hr h1
    have e2 := ZcT hX hR hr h2
    simp only [List.mapM_cons, Sem.run_bind, e1, Result.andThen_ok, e2]
    rfl
   ·cases h
theorem Za6 (hX : CxOk P X d1 n1 w1) (hR : Rel X.R d st a) (hr : Zak X.R d1 n1 w1 d st.b w) {fn : Func} {v : AV} (h : Zbb X st fn.results.toList = some v) : (results fn a.tmps).run P w = .ok (v.v X.R) w := by
 rw [Zex, Array.mapM_eq_mapM_toList]
 unfold Zbb at h
 split at h
 ·rename_i r hl
  have e := ZcT hX hR hr (rs := [r]) (l := [v]) (by simp [resL, h])
  rw [hl]
  simp only [map_eq_pure_bind, bind_assoc, pure_bind, Sem.run_bind, e, Result.andThen_ok]
  rfl
 ·rename_i hl
  split at h
  ·rename_i l hl2
   injection h with h
   subst h
   have e := ZcT hX hR hr hl2
   simp only [map_eq_pure_bind, bind_assoc, pure_bind, Sem.run_bind, e, Result.andThen_ok]
   have hne : ¬ (AV.vs X.R l).toArray.size = 1 := by
    rw [List.size_toArray, Zbz]
    intro h1
    have : ∀ (rs : List ResultVar) (l : List AV), resL X st rs = some l → rs.length = l.length := by
     intro rs
     induction rs with
     | nil => intro l h; injection h with h; subst h; rfl
     | cons r rs ih =>
       intro l h
       unfold resL at h
       split at h
       ·rename_i v l' h1 h2
        injection h with h
        subst h
        simp [ih l' h2]
       ·cases h
    have h2 := this _ _ hl2
    rw [h1] at h2
    obtain ⟨r, hr⟩ := List.length_eq_one_iff.1 h2
    exact hl r hr
   simp only [AV.v, Sem.run_pure]
   rw [dif_neg hne]
  ·cases h
theorem ZdD : ∀ (ss : List Slot) (t : Tm) (i j : Nat), (ZbV t i ss).get j = .dead ∨ (∃ k, j = i + k ∧ ss[k]? = some ((ZbV t i ss).get j)) ∨ ((j < i ∨ i + ss.length ≤ j) ∧ (ZbV t i ss).get j = t.get j)
 | [], t, i, j => .inr (.inr ⟨by simp; omega, rfl⟩)
 | s :: ss, t, i, j => by
   simp only [ZbV]
   rcases ZdD ss (t.put i s) (i + 1) j with h | ⟨k, h1, h2⟩ | ⟨h1, h2⟩
   ·exact .inl h
   ·exact .inr (.inl ⟨k + 1, by omega, by simpa using h2⟩)
   ·rw [h2]
    rcases Za8 t i j s with h | h
    ·exact .inl h
    ·by_cases he : i = j
     ·subst he
      rw [if_pos rfl] at h
      exact .inr (.inl ⟨0, rfl, by rw [h]; rfl⟩)
     ·rw [if_neg he] at h
      rw [h]
      exact .inr (.inr ⟨by simp only [List.length_cons]; omega, rfl⟩)
theorem Zdi {R : Nat → Row} {d : Nat → Nat} {dep n : Nat} {ss : List Slot} {b : List (List AV)} (hn : ss.length ≤ n) (hs : ∀ s ∈ ss, SOk R b.length s) :
 Rel R d (ZaY dep n ss b) { tmps := (ss.map (Slot.val R d)).toArray ++ Array.replicate (n - (ss.map (Slot.val R d)).toArray.size) undef, defers := [] } := by
 have key : ∀ i, (ZbV (Tm.full dep) 0 ss).get i = .dead ∨ ss[i]? = some ((ZbV (Tm.full dep) 0 ss).get i) := by
  intro i
  rcases ZdD ss (Tm.full dep) 0 i with h | ⟨k, h1, h2⟩ | ⟨h1, h2⟩
  ·exact .inl h
  ·obtain rfl : i = k := by omega
   exact .inr h2
  ·rw [Zcb] at h2
   exact .inl h2
 refine ⟨rfl, by simp [ZaY]; omega, fun i => ?_, fun i b' o h => ?_, fun i r k o h => ?_⟩
 ·rcases key i with h | h
  ·exact .inl h
  ·right
   show ((ss.map (Slot.val R d)).toArray ++ _)[i]? = some (((ZbV (Tm.full dep) 0 ss).get i).val R d)
   have hlt : i < ss.length := (List.getElem?_eq_some_iff.1 h).1
   rw [Array.getElem?_append_left (by simpa using hlt)]
   simp [h]
 ·rcases key i with h2 | h2
  ·simp only [ZaY] at h; rw [h2] at h; cases h
  ·simp only [ZaY] at h; rw [h] at h2
   exact (hs _ (List.mem_of_getElem? h2)).1 b' o rfl
 ·rcases key i with h2 | h2
  ·simp only [ZaY] at h; rw [h2] at h; cases h
  ·simp only [ZaY] at h; rw [h] at h2
   exact (hs _ (List.mem_of_getElem? h2)).2 r k o rfl
def Owes (P : Program) (X : Cx) (d1 : Nat → Nat) (n1 : Nat) (w1 : World) (Qf : Exit → Act → World → Prop) (l : Leaf) : Prop :=
 l.kok → ∀ d a w, Rel X.R d l.st a → Zak X.R d1 n1 w1 d l.st.b w → Zf0 P X d1 n1 w1 d Qf l a w
theorem Zcj (R : Nat → Row) (d : Nat → Nat) : ∀ l : List AV, (Zbo l).map (Slot.val R d) = AV.vs R l
 | [] => rfl
 | x :: l => by simp only [Zbo, List.map_cons, AV.vs, Zcj R d l]; rfl
theorem ZcS (R : Nat → Row) (n : Nat) : ∀ (l : List AV), ∀ s ∈ Zbo l, SOk R n s
 | [], s, h => by cases h
 | x :: l, s, h => by
   rcases List.mem_cons.1 h with rfl | h
   ·exact SOk.v ..
   ·exact ZcS R n l s h
theorem Zck : ∀ l : List AV, (Zbo l).length = l.length
 | [] => rfl
 | x :: l => by simp only [Zbo, List.length_cons, Zck l]
theorem Zak.start {R : Nat → Row} {d : Nat → Nat} (w : World) : Zak R d 0 w d [] w :=
 ⟨fun i cs h => by simp at h, fun i j h => by simp at h, Nat.le_refl _, fun _ _ => rfl, fun i _ h => by simp at h, Upd.refl _ _⟩
theorem ZaD {f : FuncId} {fn : Func} {c : Code} (hf : P.funcs[f]? = some fn) (hb : fn.body = some c) (hok : ZaB c = true) (hm : P.follows .mixedOrders = true) (hX : CxOk P X d1 0 w) (args : List AV) (dep n : Nat) (hn : args.length ≤ fn.ntmps) {Post : Ending → World → Prop}
 (h : (seg X n [.code c] (ZaY dep fn.ntmps (Zbo args) [])).holds (Owes P X d1 0 w (bodyPost P fn Post))) : Calls P f (AV.vs X.R args).toArray w Post := by
 refine calls_of_wp hf hb ?_
 have hR := Zdi (R := X.R) (d := d1) (dep := dep) (n := fn.ntmps) (ss := Zbo args) (b := []) (by rw [Zck]; exact hn) (ZcS _ _ _)
 rw [Zcj] at hR
 exact ZaS (fun c a w dst v h => (by cases dst <;> exact h)) hm hX (fun l hl hk d a w => hl hk d a w) n [.code c] _ d1 _ w ⟨hok, trivial⟩ hR (Zak.start w) h
def Ans (X : Cx) (rs : List ResultVar) (v : Value) : Leaf → Prop
 | .fin st => match Zbb X st rs with
   | some u => u.v X.R = v
   | none => False
 | _ => False
def AnsM (X : Cx) (rs : List ResultVar) (v : Value) (cs' : List Value) : Leaf → Prop
 | .fin st => match Zbb X st rs with
   | some u => u.v X.R = v ∧ (match st.b with
     | y :: _ => AV.vs X.R y = cs'
     | [] => False)
   | none => False
 | _ => False
theorem ZdS {f : FuncId} {fn : Func} {c : Code} (hf : P.funcs[f]? = some fn) (hb : fn.body = some c) (hok : ZaB c = true) (hm : P.follows .mixedOrders = true) (hX : CxOk P X d1 0 w) (args : List AV) (dep n : Nat) (hn : args.length ≤ fn.ntmps) (v : Value)
 (h : (seg X n [.code c] (ZaY dep fn.ntmps (Zbo args) [])).holds (Ans X fn.results.toList v)) : Calls P f (AV.vs X.R args).toArray w fun e w' => e = .returned v ∧ Below w.heap.size w w' := by
 refine ZaD hf hb hok hm hX args dep n hn ?_
 have mono : ∀ (t : Tr Leaf) (Q Q' : Leaf → Prop), (∀ l, Q l → Q' l) → t.holds Q → t.holds Q' := by
  intro t Q Q' hQ
  induction t with
  | ret x => exact hQ x
  | ite b x y ihx ihy => exact fun h => ⟨fun hb => ihx () (h.1 hb), fun hb => ihy () (h.2 hb)⟩
  | need b x ih => exact fun h => ⟨h.1, ih () h.2⟩
  | stuck => exact id
 refine mono _ _ _ (fun l hl _ d a w' hR hr => ?_) h
 cases l with
 | stop => exact hl.elim
 | stopS => exact hl.elim
 | fin st =>
   obtain ⟨u, hu, rfl⟩ : ∃ u, Zbb X st fn.results.toList = some u ∧ u.v X.R = v := by
    simp only [Ans] at hl
    split at hl
    ·rename_i u hu
     exact ⟨u, hu, hl⟩
    ·exact hl.elim
   have e := Za6 hX hR hr hu
   have : a.defers = [] ∧ ∃ v, (results fn a.tmps).run P w' = .ok v w' ∧ (Ending.returned v = .returned (u.v X.R) ∧ Below w.heap.size w w') :=
    ⟨hR.defers, _, e, rfl, hr.upd.below (fun k ⟨i, hi, _⟩ => by omega)⟩
   exact ⟨this, this⟩
theorem Zge {f : FuncId} {fn : Func} {c : Code} {blk : Nat} {ty : TypeId} {cs : List AV} (hf : P.funcs[f]? = some fn) (hb : fn.body = some c) (hok : ZaB c = true) (hm : P.follows .mixedOrders = true) (hX : CxOk P X (fun _ => blk) 1 w) (hwn : (X.R 0).wn = false) (hbx : w.heap[blk]? = some (.cells (AV.vs X.R cs).toArray ty (0, 0))) (args : List AV) (dep n : Nat) (hn : args.length + 1 ≤ fn.ntmps) (cs' : List Value) (v : Value)
 (h : (seg X n [.code c] (ZaY dep fn.ntmps (.ptr 0 0 :: Zbo args) [cs])).holds (AnsM X fn.results.toList v cs')) : Calls P f ((Value.pointer (some ⟨blk, 0, none⟩)) :: AV.vs X.R args).toArray w fun e w' => e = .returned v ∧ (∃ ty, w'.heap[blk]? = some (.cells cs'.toArray ty (0, 0))) ∧ Upd (fun k => k = blk) w w' := by
 refine calls_of_wp hf hb ?_
 have hR := Zdi (R := X.R) (d := fun _ => blk) (dep := dep) (n := fn.ntmps) (ss := .ptr 0 0 :: Zbo args) (b := [cs]) (by rw [List.length_cons, Zck]; exact hn) (fun s hs => by
  rcases List.mem_cons.1 hs with rfl | hs
  ·exact ⟨fun b o e => by injection e with e1 e2; subst e1; simp, fun _ _ _ e => by cases e⟩
  ·exact ZcS _ _ _ s hs)
 rw [List.map_cons, Zcj] at hR
 simp only [Slot.val, (hX.W 0 hwn).1, List.length_nil, Nat.add_zero] at hR
 have hr : Zak X.R (fun _ => blk) 1 w (fun _ => blk) [cs] w := ⟨fun i c hi => by
  cases i with
  | zero => simp at hi; subst hi; exact ⟨ty, fun h => (by rw [hwn] at h; cases h), by rw [(hX.W 0 hwn).1, (hX.W 0 hwn).2, List.nil_append, List.append_nil]; exact hbx⟩
  | succ i => simp at hi, fun i j hi hj _ => by simp at hi hj; omega, Nat.le_refl _, fun _ _ => rfl, fun i h1 h2 => by simp at h2; omega, Upd.refl _ _⟩
 refine ZaS (fun c a w dst v h => (by cases dst <;> exact h)) hm hX (fun l hl _ d a w' hR hr => ?_) n [.code c] _ (fun _ => blk) _ w ⟨hok, trivial⟩ hR hr h
 cases l with
 | stop => exact hl.elim
 | stopS => exact hl.elim
 | fin st =>
   obtain ⟨u, hu, rfl, y, r, hb1, hb2⟩ : ∃ u, Zbb X st fn.results.toList = some u ∧ u.v X.R = v ∧ ∃ y r, st.b = y :: r ∧ AV.vs X.R y = cs' := by
    simp only [AnsM] at hl
    split at hl
    ·rename_i u hu
     obtain ⟨h1, h2⟩ := hl
     cases hb : st.b with
     | nil => simp [hb] at h2
     | cons y r => rw [hb] at h2; exact ⟨u, hu, h1, y, r, rfl, h2⟩
    ·exact hl.elim
   have e := Za6 hX hR hr hu
   obtain ⟨ty', -, ht⟩ := hr.box 0 y (by simp only [Leaf.st]; rw [hb1]; rfl)
   rw [hr.old 0 (by omega), (hX.W 0 hwn).1, (hX.W 0 hwn).2, List.nil_append, List.append_nil, hb2] at ht
   have : a.defers = [] ∧ ∃ v, (results fn a.tmps).run P w' = .ok v w' ∧ (Ending.returned v = .returned (u.v X.R) ∧ (∃ ty, w'.heap[blk]? = some (.cells cs'.toArray ty (0, 0))) ∧ Upd (fun k => k = blk) w w') :=
    ⟨hR.defers, _, e, rfl, ⟨ty', ht⟩, hr.upd.mono (fun k ⟨i, _, h⟩ => h)⟩
   exact ⟨this, this⟩
end
def nilS : AV := .slc none 0 0
def c10 : List AV := [.lit 0, .lit 0, .lit 0, .lit 0, .lit 0, .lit 0, .lit 0, .lit 0, .lit 0, .bl false]
def tInt : TI := ⟨false, [.lit 0], [], 0, false⟩
def ZgK : TI := ⟨false, [.bl false], [], 0, true⟩
def tSl (n : Nat) : TI := ⟨false, [nilS], [], n, false⟩
def tMem : TI := ⟨true, [nilS], [(0, 1)], 0, false⟩
def Zgp : TI := ⟨true, [.lit 0, .lit 0, nilS, nilS, .lit 0], [(0, 1), (1, 1), (2, 1), (3, 1), (4, 1)], 0, false⟩
def tThr : TI := ⟨true, [nilS, .lit 0, nilS, nilS], [(0, 1), (1, 1), (2, 1), (3, 1)], 0, false⟩
def Zgq : TI := ⟨true, c10, [(0, 1), (1, 1), (2, 1), (3, 1), (4, 1), (5, 1), (6, 1), (7, 1), (8, 1), (9, 1)], 0, false⟩
def tAct : TI := ⟨true, [.lit 0, .lit 0, .lit 0, .lit 0], [(0, 1), (1, 1), (2, 1), (3, 1)], 0, false⟩
def tab : TypeId → Option TI
 | 3 => some tInt
 | 4 => some ZgK
 | 22 => some (tSl 1)
 | 24 => some tMem
 | 25 => some (tSl 4)
 | 27 => some Zgp
 | 29 => some tMem
 | 30 => some (tSl 4)
 | 32 => some Zgp
 | 50 => some (tSl 10)
 | 52 => some tThr
 | 54 => some Zgq
 | 64 => some (tSl 10)
 | 66 => some tThr
 | 85 => some tAct
 | 114 => some Zgq
 | _ => none
def eqA : Value → AV → Bool
 | .int .i64 n, .lit m => n == m
 | .bool a, .bl b => a == b
 | .slice none 0 0, .slc none 0 0 => true
 | _, _ => false
def eqAs : List Value → List AV → Bool
 | [], [] => true
 | v :: l, x :: m => eqA v x && eqAs l m
 | _, _ => false
theorem ZgO {v : Value} {x : AV} (h : eqA v x = true) (R : Nat → Row) : x.v R = v := by
 unfold eqA at h
 split at h
 ·rw [beq_iff_eq] at h; subst h; rfl
 ·rw [beq_iff_eq] at h; subst h; rfl
 ·rfl
 ·cases h
theorem ZfU : ∀ {l : List Value} {m : List AV}, eqAs l m = true → ∀ R, AV.vs R m = l
 | [], [], _, _ => rfl
 | v :: l, x :: m, h, R => by
   simp only [eqAs, Bool.and_eq_true] at h
   rw [AV.vs, ZgO h.1 R, ZfU h.2 R]
def ZeS (P : Program) (i : TI) : TypeDesc → Bool
 | .struct fs => (fs.toList.mapM (fun f => (P.info? f.type).map fun j => (f.offset, j.size)) == some i.fs) && i.fs.all (fun p => p.2 != 0)
 | _ => false
def ZfM (P : Program) (i : TI) : TypeDesc → Bool
 | .slice e => (P.info? e).map (·.size) == some i.esz
 | _ => false
def ZfR : TypeDesc → Bool
 | .bool => true
 | _ => false
def tiB (P : Program) (t : TypeId) (i : TI) : Bool :=
 match P.info? t with
 | some it => match it.zero with
   | some z => match P.underlying t with
     | some dd => it.size == i.zero.length && (eqAs z.cells.toList i.zero && (if i.ag then ZeS P i dd && (i.esz == 0 && !i.bo) else Ze2 dd && (i.fs.isEmpty && ((i.esz == 0 || ZfM P i dd) && (!i.bo || ZfR dd)))))
     | none => false
   | none => false
 | none => false
theorem Zgo {P : Program} {t : TypeId} {i : TI} (h : tiB P t i = true) : TIok P t i := by
 unfold tiB at h
 cases h1 : P.info? t with
 | none => simp [h1] at h
 | some it =>
   cases h2 : it.zero with
   | none => simp [h1, h2] at h
   | some z =>
     cases h3 : P.underlying t with
     | none => simp [h1, h2, h3] at h
     | some dd =>
       simp only [h1, h2, h3, Bool.and_eq_true, beq_iff_eq] at h
       obtain ⟨h4, h5, h6⟩ := h
       refine ⟨by rw [h1, Option.map_some, h4], fun R => ⟨it, z, h1, h2, by rw [ZfU h5 R]⟩, fun ha => ?_, fun ha => ?_, fun ha => ?_, fun ha => ?_⟩
       ·simp only [ha, if_true, Bool.and_eq_true] at h6
        obtain ⟨h7, -⟩ := h6
        cases dd <;> simp only [ZeS, Bool.false_eq_true, Bool.and_eq_true] at h7
        exact ⟨_, h3, eq_of_beq h7.1, h7.2⟩
       ·simp only [ha, Bool.false_eq_true, if_false, Bool.and_eq_true] at h6
        exact ⟨dd, h3, h6.1, by simpa using h6.2.1⟩
       ·cases hag : i.ag with
        | true =>
          simp only [hag, if_true, Bool.and_eq_true, beq_iff_eq] at h6
          omega
        | false =>
          simp only [hag, Bool.false_eq_true, if_false, Bool.and_eq_true, Bool.or_eq_true, beq_iff_eq] at h6
          obtain ⟨-, -, h7, -⟩ := h6
          rcases h7 with h7 | h7
          ·omega
          ·cases dd <;> simp only [ZfM, Bool.false_eq_true] at h7
           exact ⟨_, h3, eq_of_beq h7⟩
       ·cases hag : i.ag with
        | true => simp [hag, ha] at h6
        | false =>
          simp only [hag, ha, Bool.false_eq_true, if_false, Bool.and_eq_true, Bool.or_eq_true, Bool.not_true, false_or] at h6
          obtain ⟨-, -, -, h7⟩ := h6
          cases dd <;> simp only [ZfR, Bool.false_eq_true] at h7
          exact h3
theorem ZcF (t : TypeId) (i : TI) (h : tab t = some i) : TIok Tryz.prog t i := by
 unfold tab at h
 split at h
 all_goals first
  | (injection h with h; subst h; exact Zgo (by kernel_rfl))
  | cases h
theorem ZcG (t : TypeId) (i : TI) (h : tab t = some i) : i.zero ≠ [] := by
 unfold tab at h
 split at h
 all_goals first
  | (injection h with h; subst h; exact List.cons_ne_nil _ _)
  | cases h
theorem hm : Tryz.prog.follows .mixedOrders = true := by kernel_rfl
end Go.Proofs.YtgghglocfdcegaaGreat.Xec
