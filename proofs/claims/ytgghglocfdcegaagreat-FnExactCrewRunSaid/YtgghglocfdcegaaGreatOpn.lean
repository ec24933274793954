/- Own lemmas: a value of any type that the model can read as data is a value of the kind (Kd) that the printed contracts speak of; whole numbers, bools, slices, structs in one another. -/
import Derived.Test.YtgghglocfdcegaaGreatVCrew
import Derived.Deep.Slices
import Derived.WideShapes
import Derived.ChangeArms
import Derived.DataReads
import Derived.DataElems
import Derived.ChangeShapes
set_option linter.unusedVariables false
namespace Go.Proofs.YtgghglocfdcegaaGreat.Opn
open Go.RowKit Go.WideShapes Go.Deep Go.Proofs.YtgghglocfdcegaaGreatW.PrintWords

/-- Whatever is read at type t is some y of the kind d, and each number in it fits its kind, each length is one. -/
structure Opens (P : Program) (t : TypeId) {α : Type} (d : Kd α) (wf : α → Prop) : Prop where
  sz : P.cellsOf t = d.sz
  op : ∀ {H : Type} (enc : TypeId × Value → H) (w : World) (base : Nat) (spare : Nat → Bool) (held : Bool) (fuel : Nat) (cs : List Value) (x : DataW H × List MemPlace),
    DataW.trod enc P w base spare held fuel t cs = some x → ∃ y, d.K w y cs ∧ wf y

section
variable {P : Program} {α β : Type}

theorem opens_int {t : TypeId} {k : IntKind} (ht : P.underlying t = some (.int k)) (hc : P.cellsOf t = 1) : Opens P t (Kd.int k) (fun n => (Lit.int k n).wf = true) :=
  ⟨hc, fun enc w base spare held fuel cs x h => by
    obtain ⟨n, rfl, _, hw⟩ := DataW.trod_int ht h
    exact ⟨n, rfl, hw⟩⟩
theorem opens_bool {t : TypeId} (ht : P.underlying t = some .bool) (hc : P.cellsOf t = 1) : Opens P t Kd.bool (fun _ => True) :=
  ⟨hc, fun enc w base spare held fuel cs x h => by
    obtain ⟨b, rfl, _⟩ := DataW.trod_bool ht h
    exact ⟨b, rfl, trivial⟩⟩

theorem opens_slice {t e : TypeId} {d : Kd α} {wf : α → Prop} (ht : P.underlying t = some (.slice e)) (hc : P.cellsOf t = 1) (he : Opens P e d wf) :
    Opens P t (Kd.slice e d) (fun xs => xs.length ≤ maxLen ∧ ∀ x ∈ xs, wf x) :=
  ⟨hc, fun enc w base spare held fuel cs x h => by
    rcases open_slice ht h with ⟨rfl, _⟩ | ⟨a, len, cap, m, n, D, Pl, rfl, hb, hl, hm, hme, _, hi⟩
    · exact ⟨[], ⟨none, 0, rfl, Nat.le_refl _, rfl, by simp, fun hp => absurd hp (by simp)⟩, by simp [maxLen], by simp⟩
    · have hle : len ≤ m := by rw [hme]; split <;> omega
      have each : ∀ i, i < len → ∃ y c, c.length = d.sz ∧ d.K w y c ∧ wf y ∧ ∀ j u, c[j]? = some u → w.cell? (a.add (i * d.sz + j)) = some u := by
        intro i hlt
        obtain ⟨c, h1, h2⟩ := hi i (by omega)
        obtain ⟨y, hk, hw⟩ := he.op enc w base spare held n c _ h2
        refine ⟨y, c, d.K_len hk, hk, hw, fun j u hu => ?_⟩
        obtain ⟨_, h4, h5⟩ := World.cells?_some h1
        rw [he.sz] at h5 h4
        have hj : j < d.sz := by rw [← d.K_len hk]; exact (List.getElem?_eq_some_iff.1 hu).1
        have := h5 j hj
        rw [Addr.add_add] at this
        rw [this, hu]
      have pick : ∀ k, k ≤ len → ∃ xs : List α, xs.length = k ∧ (∀ x ∈ xs, wf x) ∧ ∀ j p, xs[j]? = some p → ∃ c, c.length = d.sz ∧ d.K w p c ∧ ∀ i u, c[i]? = some u → w.cell? (a.add (j * d.sz + i)) = some u := by
        intro k
        induction k with
        | zero => exact fun _ => ⟨[], rfl, by simp, by simp⟩
        | succ k ih =>
          intro hk
          obtain ⟨xs, hx, hw, hr⟩ := ih (by omega)
          obtain ⟨y, c, hc1, hc2, hc3, hc4⟩ := each k (by omega)
          refine ⟨xs ++ [y], by simp [hx], ?_, ?_⟩
          · intro x hm
            rcases List.mem_append.1 hm with hm | hm
            · exact hw x hm
            · rw [List.mem_singleton.1 hm]; exact hc3
          · intro j p hp
            rcases Nat.lt_trichotomy j k with hj | hj | hj
            · rw [List.getElem?_append_left (by omega)] at hp
              exact hr j p hp
            · rw [List.getElem?_append_right (by omega), hx, hj, Nat.sub_self] at hp
              simp only [List.getElem?_cons_zero, Option.some.injEq] at hp
              subst hp; subst hj
              exact ⟨c, hc1, hc2, hc4⟩
            · rw [List.getElem?_append_right (by omega), hx] at hp
              obtain ⟨q, hq⟩ : ∃ q, j - k = q + 1 := ⟨j - k - 1, by omega⟩
              rw [hq] at hp
              simp at hp
      obtain ⟨xs, hx, hw, hr⟩ := pick len (Nat.le_refl _)
      refine ⟨xs, ⟨some a, cap, by rw [hx], by omega, rfl, ?_, fun _ => ⟨a, rfl, hr⟩⟩, by omega, hw⟩
      rw [hx]; have := hm; simp only [maxLen] at this; omega⟩

/-- The fields of a struct from a place on. -/
structure OpensF (P : Program) (fs : List Field) (off : Nat) {α : Type} (d : Kd α) (wf : α → Prop) : Prop where
  op : ∀ {H : Type} (enc : TypeId × Value → H) (w : World) (base : Nat) (spare : Nat → Bool) (held : Bool) (fuel : Nat) (cs : List Value) (xs : List (DataW H × List MemPlace)),
    xs.length = fs.length → (∀ (i : Nat) (f : Field), fs[i]? = some f → DataW.trod enc P w base spare held fuel f.type ((cs.drop f.offset).take (P.cellsOf f.type)) = xs[i]?) → cs.length = off + d.sz → ∃ y, d.K w y (cs.drop off) ∧ wf y

theorem fields_one {f : Field} {off : Nat} {d : Kd α} {wf : α → Prop} (h : Opens P f.type d wf) (ho : f.offset = off) : OpensF P [f] off d wf :=
  ⟨fun enc w base spare held fuel cs xs hl hf hc => by
    have h0 := hf 0 f rfl
    rw [ho, List.take_of_length_le (by rw [List.length_drop, hc, h.sz]; omega)] at h0
    obtain ⟨x, hx⟩ : ∃ x, xs[0]? = some x := ⟨_, List.getElem?_eq_getElem (by rw [hl]; simp)⟩
    rw [hx] at h0
    exact h.op enc w base spare held fuel _ x h0⟩

theorem fields_cons {f : Field} {fs : List Field} {off : Nat} {d : Kd α} {wf : α → Prop} {d' : Kd β} {wf' : β → Prop} (h : Opens P f.type d wf) (ho : f.offset = off) (r : OpensF P fs (off + d.sz) d' wf') :
    OpensF P (f :: fs) off (Kd.pair d d') (fun y => wf y.1 ∧ wf' y.2) :=
  ⟨fun enc w base spare held fuel cs xs hl hf hc => by
    have hsz : (Kd.pair d d').sz = d.sz + d'.sz := rfl
    rw [hsz] at hc
    have h0 := hf 0 f rfl
    obtain ⟨x, hx⟩ : ∃ x, xs[0]? = some x := ⟨_, List.getElem?_eq_getElem (by rw [hl]; simp)⟩
    rw [hx, ho, h.sz] at h0
    obtain ⟨y, hk, hw⟩ := h.op enc w base spare held fuel _ x h0
    obtain ⟨y', hk', hw'⟩ := r.op enc w base spare held fuel cs (xs.drop 1) (by rw [List.length_drop, hl]; simp) (fun i g hg => by
      rw [List.getElem?_drop, Nat.add_comm]; exact hf (i + 1) g hg) (by omega)
    refine ⟨(y, y'), ⟨_, _, ?_, hk, hk'⟩, hw, hw'⟩
    rw [← List.drop_drop]
    exact (List.take_append_drop _ _).symm⟩

theorem opens_struct {t : TypeId} {fs : Array Field} {d : Kd α} {wf : α → Prop} (ht : P.underlying t = some (.struct fs)) (hc : P.cellsOf t = d.sz) (hf : OpensF P fs.toList 0 d wf) : Opens P t d wf :=
  ⟨hc, fun enc w base spare held fuel cs x h => by
    obtain ⟨xs, n, rfl, _, hl, hlen, hfs⟩ := DataW.trod_struct ht h
    have := hf.op enc w base spare held n cs xs (by simpa using hlen) (fun i f hfi => hfs i f (by simpa using hfi)) (by rw [hl, hc]; omega)
    simpa using this⟩

theorem opens_iso {t : TypeId} {d : Kd α} {wf : α → Prop} {f : β → α} {g : α → β} (h : Opens P t d wf) (hfg : ∀ y, f (g y) = y) : Opens P t (Kd.iso d f) (fun x => wf (f x)) :=
  ⟨h.sz, fun enc w base spare held fuel cs x hx => by
    obtain ⟨y, hk, hw⟩ := h.op enc w base spare held fuel cs x hx
    refine ⟨g y, ?_, ?_⟩
    · show d.K w (f (g y)) cs
      rw [hfg]; exact hk
    · rw [hfg]; exact hw⟩

/-- An argument that is a struct. -/
theorem open_agg {H : Type} {enc : TypeId × Value → H} {w : World} {base : Nat} {spare : Nat → Bool} {held : Bool} {r : Reach} {b0 : Nat} {t : TypeId} {fs : Array Field} {d : Kd α} {wf : α → Prop} {v : Value} {x : DataW H} {p : List MemPlace}
    (ht : P.underlying t = some (.struct fs)) (ho : Opens P t d wf) (hval : Value.okWide P w r b0 t v) (h : DataW.Trod enc P w base spare held t v x p) : ∃ cs : List Value, v = .agg cs.toArray ∧ ∃ y, d.K w y cs ∧ wf y := by
  obtain ⟨cs, rfl, _⟩ := okWide_struct ht hval
  obtain ⟨fuel, hf⟩ := h
  exact ⟨cs.toList, by simp, by simpa [Value.cells] using ho.op enc w base spare held fuel _ _ hf⟩
/-- .. a slice. -/
theorem open_row_ {H : Type} {enc : TypeId × Value → H} {w : World} {base : Nat} {spare : Nat → Bool} {held : Bool} {r : Reach} {b0 : Nat} {t e : TypeId} {d : Kd α} {wf : List α → Prop} {v : Value} {x : DataW H} {p : List MemPlace}
    (ht : P.underlying t = some (.slice e)) (ho : Opens P t (Kd.slice e d) wf) (hval : Value.okWide P w r b0 t v) (h : DataW.Trod enc P w base spare held t v x p) :
    ∃ (A : Option Addr) (xs : List α) (c : Nat), v = .slice A xs.length c ∧ d.C w A xs.length xs ∧ xs.length ≤ c ∧ wf xs := by
  obtain ⟨A, n, c, rfl⟩ := okWide_slice ht hval
  obtain ⟨fuel, hf⟩ := h
  obtain ⟨y, ⟨A', c', he, hl, hC⟩, hw⟩ := ho.op enc w base spare held fuel _ _ hf
  simp only [Value.cells, List.cons.injEq, and_true] at he
  exact ⟨A', y, c', he, hC, hl, hw⟩
end
end Go.Proofs.YtgghglocfdcegaaGreat.Opn
