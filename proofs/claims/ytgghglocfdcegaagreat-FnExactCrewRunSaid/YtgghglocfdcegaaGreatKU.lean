/- Part U of the proof of FnExactCrewStep and FnExactCrewRun (wip/xec, pack.py). No condition. -/
import Derived.Test.YtgghglocfdcegaaGreatKL
import Derived.Test.YtgghglocfdcegaaGreatKM
import Derived.Test.YtgghglocfdcegaaGreatKP
import Derived.Test.YtgghglocfdcegaaGreatKQ
import Derived.Test.YtgghglocfdcegaaGreatKI
import Derived.Test.YtgghglocfdcegaaGreatKJ
import Derived.Test.YtgghglocfdcegaaGreatKH
import Derived.Test.YtgghglocfdcegaaGreatKR
namespace Go.Proofs.YtgghglocfdcegaaGreat.Xec
open Go Go.RowKit Go.Proofs.YtgghglocfdcegaaGreat.PFnExactCrewRun Go.Proofs.YtgghglocfdcegaaGreatW.PrintWords Plain
set_option linter.unusedVariables false
set_option linter.unusedSimpArgs false
set_option maxRecDepth 100000
set_option maxHeartbeats 16000000
structure RngC (c : S54) : Prop where
 r0 : I64 c.f0
 r1 : I64 c.f1
 r2 : I64 c.f2
 r3 : I64 c.f3
 r4 : I64 c.f4
 r5 : I64 c.f5
 r6 : I64 c.f6
 r7 : I64 c.f7
 r8 : I64 c.f8
structure RngT (t : S52) : Prop where
 c : ∀ x ∈ t.f0, RngC x
 a : I64 t.f1
 b : ∀ x ∈ t.f2, I64 x
 e : ∀ x ∈ t.f3, I64 x
structure Rng (c : Cw) : Prop where
 ml : c.m.length ≤ 1048576
 m : ∀ y ∈ c.m, I64 y
 l : ∀ t ∈ c.l, RngT t
 ck : I64 c.ck
structure RsOk (l : List Int) (r : Rs) : Prop where
 ml : r.m.length ≤ l.length
 m : ∀ y ∈ r.m, I64 y
 c : RngC r.c
theorem ZeT (wh sz : Int) (l : List Int) (hl : l.length ≤ 1048576) (hB : ∀ y ∈ l, I64 y) (y0 y1 y2 y3 y4 y5 y6 y7 y8 : Int) (y9 : Bool) (h0 : I64 y0) (h1 : I64 y1) (h2 : I64 y2) (h3 : I64 y3) (h4 : I64 y4) (h5 : I64 y5) (h6 : I64 y6) (h7 : I64 y7) (h8 : I64 y8) :
 stS Zg.F Zc.F Zh.F wh sz l y0 y1 y2 y3 y4 y5 y6 y7 y8 y9 = stS Zd.F Ze.F Zo.F wh sz l y0 y1 y2 y3 y4 y5 y6 y7 y8 y9 ∧ RsOk l (stS Zd.F Ze.F Zo.F wh sz l y0 y1 y2 y3 y4 y5 y6 y7 y8 y9) := by
 have fin : ∀ {s i : TS} {m : List Int} {r1 r2 r3 r4 r5 r6 r7 r8 r9 : Int} {r10 r11 : Bool}, (m.length ≤ l.length ∧ ∀ y ∈ m, I64 y) → (I64 r1 ∧ I64 r2 ∧ I64 r3 ∧ I64 r4 ∧ I64 r5 ∧ I64 r6 ∧ I64 r7 ∧ I64 r8 ∧ I64 r9) → s = (m, r1, r2, r3, r4, r5, r6, r7, r8, r9, r10, r11) → i = (m, r1, r2, r3, r4, r5, r6, r7, r8, r9, r10, r11) → rsOf i = rsOf s ∧ RsOk l (rsOf s) := by
  rintro s i m r1 r2 r3 r4 r5 r6 r7 r8 r9 r10 r11 ⟨q1, q2⟩ ⟨g1, g2, g3, g4, g5, g6, g7, g8, g9⟩ rfl rfl
  exact ⟨rfl, q1, q2, g1, g2, g3, g4, g5, g6, g7, g8, g9⟩
 unfold stS
 split
 ·obtain ⟨m, r1, r2, r3, r4, r5, r6, r7, r8, r9, r10, r11, hm, hR, hk⟩ := ZdV sz l hl hB y0 y1 y2 y3 y4 y5 y6 y7 y8 y9 h0 h1 h2 h3 h4 h5 h6 h7 h8
  exact fin hm hR (by unfold Zd.F; rw [(hk 30 (Nat.le_refl _)).1]; rfl) (by unfold Zg.F; rw [(hk 30 (Nat.le_refl _)).2]; rfl)
 ·split
  ·obtain ⟨m, r1, r2, r3, r4, r5, r6, r7, r8, r9, r10, r11, hm, hR, hk⟩ := ZdW sz l hl hB y0 y1 y2 y3 y4 y5 y6 y7 y8 y9 h0 h1 h2 h3 h4 h5 h6 h7 h8
   exact fin hm hR (by unfold Ze.F; rw [(hk 30 (Nat.le_refl _)).1]; rfl) (by unfold Zc.F; rw [(hk 30 (Nat.le_refl _)).2]; rfl)
  ·obtain ⟨m, r1, r2, r3, r4, r5, r6, r7, r8, r9, r10, r11, hm, hR, hk⟩ := ZdZ sz l hl hB y0 y1 y2 y3 y4 y5 y6 y7 y8 y9 h0 h1 h2 h3 h4 h5 h6 h7 h8
   exact fin hm hR (by unfold Zo.F; rw [(hk 30 (Nat.le_refl _)).1]; rfl) (by unfold Zh.F; rw [(hk 30 (Nat.le_refl _)).2]; rfl)
def crS (c : Cw) : S54 → Int → Rs := CrS Zm.F (stS Zd.F Ze.F Zo.F c.wh c.sz c.m) c.m c.wh
def crI (c : Cw) : S54 → Int → Rs := CrS Zb.F (stS Zg.F Zc.F Zh.F c.wh c.sz c.m) c.m c.wh
theorem ZgQ : I64 4 := Plain.Gd
theorem Zfx (c : S54) (hc : RngC c) (P : Int) (hP : I64 P) : endC Zb.F c P = endC Zm.F c P ∧ RngC (endC Zm.F c P) := by
 have h4 := ZgQ
 refine ⟨rfl, hc.r0, hP, hc.r2, hc.r3, hc.r4, hc.r5, hc.r6, h4, hc.r8⟩
theorem Zfc (c : Cw) (hR : Rng c) (q : S54) (hq : RngC q) (P : Int) (hP : I64 P) : crI c q P = crS c q P ∧ RsOk c.m (crS c q P) := by
 have s1 := ZeT c.wh c.sz c.m hR.ml hR.m q.f0 P q.f2 q.f3 q.f4 q.f5 q.f6 q.f7 q.f8 q.f9 hq.r0 hP hq.r2 hq.r3 hq.r4 hq.r5 hq.r6 hq.r7 hq.r8
 have s2 := ZeT c.wh c.sz c.m hR.ml hR.m q.f0 q.f1 q.f2 q.f3 q.f4 q.f5 q.f6 q.f7 q.f8 q.f9 hq.r0 hq.r1 hq.r2 hq.r3 hq.r4 hq.r5 hq.r6 hq.r7 hq.r8
 have s3 := Zfx q hq P hP
 unfold crI crS CrS
 split
 ·split
  ·rw [s3.1]
   exact ⟨rfl, Nat.le_refl _, hR.m, s3.2⟩
  ·exact s1
 ·exact s2
theorem Zcy : I64 0 := Plain.Gd
theorem Zf3 : RngC z54 := ⟨Zcy, Zcy, Zcy, Zcy, Zcy, Zcy, Zcy, Zcy, Zcy⟩
theorem ZcV {l : List S54} (h : ∀ x ∈ l, RngC x) (i : Int) : RngC (rd_T54 l i) := by
 unfold rd_T54
 rw [List.getD_eq_getElem?_getD]
 cases e : l[i.toNat]? with
 | none => exact Zf3
 | some y => exact h y (List.mem_of_getElem? e)
theorem ZeX {f : Int → S54} (h : ∀ i, RngC (f i)) (p : Int) : ∀ n, I64 (Pop.at f p n)
 | 0 => (Plain.Gd : I64 (-1))
 | n + 1 => by
   have := ZeX h p n
   have h8 := (h n).r8
   have hm : I64 (-1) := Plain.Gd
   unfold Pop.at
   repeat' split
   all_goals assumption
def okB (c : Cw) : Bool := decide (Zae.F c.wh = true ∧ Zx.F c.sz = true ∧ ¬ (c.wh = 2 ∧ c.sz < 2) ∧ (c.m.length : Int) = Z0.F c.wh c.sz ∧ c.l.length ≤ 6 ∧ 0 ≤ c.ck ∧ ∀ i : Nat, i < c.l.length → Thr.F c.wh c.ck (rd_T52 c.l i).f0 (rd_T52 c.l i).f1 (rd_T52 c.l i).f2 (rd_T52 c.l i).f3 = true)
theorem ZeZ (c : Cw) : okB c = true ↔ OkS c := decide_eq_true_iff
theorem Zd2 (x y z : Int) : impl_within.F x y z = decide (y ≤ x ∧ x ≤ z) := by
 unfold impl_within.F
 rw [ZaC]
 rfl
theorem in_F (x y z : Int) : ZP.F x y z = decide (y ≤ x ∧ x ≤ z) := by
 unfold ZP.F
 rw [ZbS]
 rfl
theorem ZfB (wh : Int) (c : S54) : BegI wh c = Beg wh c := rfl
theorem Zfr (wh t a : Int) (ht : 0 ≤ t) (ht2 : I64 t) (c : S54) (i b e : Int) : ThrI.okp wh t a c i b e ↔ Thr.okp wh t a c i b e := by
 have hw : wrap64 (t - 1) = t - 1 := w64 (by omega) (by have := ht2.hi; omega)
 unfold ThrI.okp Thr.okp ZbE.F
 rw [ZfB]
 simp only [Zd2, in_F, hw, Bool.and_eq_true, decide_eq_true_eq, beq_iff_eq]
 refine and_congr_right fun _ => and_congr_right fun _ => ?_
 by_cases h3 : c.f3 = 0 <;> cases h9 : c.f9 <;> by_cases he : e = -1 <;> simp [h3, he] <;> omega
theorem Zfn (wh t : Int) (ht : 0 ≤ t) (ht2 : I64 t) (l : List S54) (a : Int) (b e : List Int) : ThrI.F wh t l a b e = Thr.F wh t l a b e := by
 unfold ThrI.F Thr.F
 rw [decide_eq_decide, Zd2, decide_eq_true_eq]
 simp only [and_assoc, Zfr wh t a ht ht2]
theorem Zga (c : Cw) (hck : I64 c.ck) (r : List Int) (ok : Bool) (h : ok = true ∧ (r.length : Int) = c.m.length ↔ Zae.F c.wh = true ∧ Zx.F c.sz = true ∧ ¬ (c.wh = 2 ∧ c.sz < 2) ∧ (c.m.length : Int) = Z0.F c.wh c.sz) : OkI r ok c ↔ OkS c := by
 unfold OkI OkS
 have e : r.length = c.m.length ↔ (r.length : Int) = c.m.length := by omega
 rw [e, ← and_assoc, h]
 simp only [and_assoc]
 refine and_congr_right fun _ => and_congr_right fun _ => and_congr_right fun _ => and_congr_right fun _ => and_congr_right fun _ => and_congr_right fun h0 => ?_
 simp only [Zfn c.wh c.ck h0 hck]
def Zfi (l : List S52) (j : Nat) : Bool := decide ((rd_T52 l j).f1 < ((rd_T52 l j).f0.length : Int))
def Zcv (l : List S52) (n : Nat) : List Int := ((List.range n).filter (Zfi l)).map fun (i : Nat) => (i : Int)
def ZaN (l : List S52) : List Int := Zcv l l.length
theorem ZeD (l : List S52) (n : Nat) : Zcv l (n + 1) = if (rd_T52 l n).f1 < ((rd_T52 l n).f0.length : Int) then Zcv l n ++ [(n : Int)] else Zcv l n := by
 unfold Zcv
 rw [List.range_succ, List.filter_append, List.map_append]
 by_cases h : (rd_T52 l n).f1 < ((rd_T52 l n).f0.length : Int)
 ·rw [if_pos h, List.filter_cons_of_pos (by simpa [Zfi] using h)]
  rfl
 ·rw [if_neg h, List.filter_cons_of_neg (by simpa [Zfi] using h)]
  simp
theorem Zfh (l : List S52) : (ZaN l).length ≤ l.length := by
 unfold ZaN Zcv
 rw [List.length_map]
 exact Nat.le_trans (List.length_filter_le ..) (by simp)
theorem Zfg {l : List S52} {x : Int} (h : x ∈ ZaN l) : ∃ j : Nat, x = j ∧ j < l.length ∧ (rd_T52 l j).f1 < ((rd_T52 l j).f0.length : Int) := by
 unfold ZaN Zcv at h
 obtain ⟨j, hj, rfl⟩ := List.mem_map.1 h
 obtain ⟨h1, h2⟩ := List.mem_filter.1 hj
 exact ⟨j, rfl, List.mem_range.1 h1, by simpa [Zfi] using h2⟩
theorem Zft (p : Int) (hp : I64 p) (n : Nat) (h1 : 1 ≤ n) (h2 : n ≤ 1000) : Zal.F p n = Zaj.F p n ∧ 0 ≤ Zaj.F p n ∧ Zaj.F p n < n := by
 obtain ⟨e1, e2⟩ := modB p n (by omega) (by omega) hp.lo hp.hi
 unfold Zal.F Zaj.F
 rw [e1, e2]
 exact ⟨rfl, Int.emod_nonneg _ (by omega), Int.emod_lt_of_pos _ (by omega)⟩
def stpK (c : Cw) (p : Int) : Nat := (rd (ZaN c.l) (Zaj.F p (ZaN c.l).length)).toNat
def stpT (c : Cw) (p : Int) : S52 := rd_T52 c.l (stpK c p)
def stpJ (c : Cw) (p : Int) : Nat := (stpT c p).f1.toNat
def stpC (c : Cw) (p : Int) : S54 := rd_T54 (stpT c p).f0 (stpT c p).f1
def stpB (c : Cw) (p : Int) : Int := rd (stpT c p).f2 (stpT c p).f1
def stpE (c : Cw) (p : Int) : Int := rd (stpT c p).f3 (stpT c p).f1
def stpR (c : Cw) (p : Int) : Rs := crS c (stpC c p) (Pop.at (rd_T54 (stpT c p).f0) (stpT c p).f1 (stpT c p).f0.length)
def stp (c : Cw) (p : Int) : Option Cw := if okB c = true ∧ ¬ ZaN c.l = [] then (if (stpR c p).ok then some ⟨c.wh, c.sz, (stpR c p).m, crL c.l (stpK c p) (stpJ c p) (stpT c p) (if stpB c p < 0 then c.ck else stpB c p) (stpE c p) c.ck (stpR c p), wrap64 (c.ck + 1)⟩ else none) else none
theorem rdI {l : List Int} {i : Nat} (h : i < l.length) : l[i]? = some (rd l i) := by
 unfold rd
 rw [Int.toNat_natCast, List.getD_eq_getElem?_getD, List.getElem?_eq_getElem h]
 rfl
theorem rdC {l : List S54} {i : Nat} (h : i < l.length) : l[i]? = some (rd_T54 l i) := by
 unfold rd_T54
 rw [Int.toNat_natCast, List.getD_eq_getElem?_getD, List.getElem?_eq_getElem h]
 rfl
theorem rdT {l : List S52} {i : Nat} (h : i < l.length) : l[i]? = some (rd_T52 l i) := by
 unfold rd_T52
 rw [Int.toNat_natCast, List.getD_eq_getElem?_getD, List.getElem?_eq_getElem h]
 rfl
theorem ZdL {c : Cw} (hok : OkS c) (hab : ¬ ZaN c.l = []) (p : Int) (hp : I64 p) : (Zal.F p (ZaN c.l).length = Zaj.F p (ZaN c.l).length ∧ 0 ≤ Zaj.F p (ZaN c.l).length ∧ Zaj.F p (ZaN c.l).length < (ZaN c.l).length) ∧ rd (ZaN c.l) (Zaj.F p (ZaN c.l).length) = (stpK c p : Int) ∧ Pick c.l (stpK c p) (stpJ c p) (stpT c p) (stpC c p) (stpB c p) (stpE c p) ∧ stpK c p < c.l.length ∧ -1 ≤ stpB c p ∧ 0 ≤ (stpT c p).f1 ∧ (stpT c p).f1 < (stpT c p).f0.length := by
 obtain ⟨-, -, -, -, h5, h6, h7⟩ := hok
 have hn : 1 ≤ (ZaN c.l).length := List.length_pos_iff.2 hab
 have hM := Zft p hp (ZaN c.l).length hn (by have := Zfh c.l; omega)
 obtain ⟨q, hq⟩ : ∃ q : Nat, Zaj.F p (ZaN c.l).length = q := ⟨_, (Int.toNat_of_nonneg hM.2.1).symm⟩
 have hql : q < (ZaN c.l).length := by have := hM.2.2; omega
 obtain ⟨k, e1, e2, e3⟩ := Zfg (List.mem_of_getElem? (rdI hql))
 have ek : stpK c p = k := by
  unfold stpK
  rw [hq, e1, Int.toNat_natCast]
 have et : stpT c p = rd_T52 c.l k := by
  unfold stpT
  rw [ek]
 have ht := h7 k e2
 unfold Thr.F at ht
 obtain ⟨t1, t2, t3, t4, t5, t6⟩ := of_decide_eq_true ht
 rw [← et] at t2 t3 t4 t5 t6 e3
 have ej : (stpT c p).f1 = (stpJ c p : Int) := (Int.toNat_of_nonneg t4).symm
 have hj : stpJ c p < (stpT c p).f0.length := by omega
 have hB := (t6 _ hj).2.2
 unfold ZbE.F at hB
 simp only [in_F, Bool.and_eq_true, decide_eq_true_eq] at hB
 refine ⟨hM, by rw [hq, e1, ek], ⟨?_, ej, ?_, ?_, ?_⟩, by omega, ?_, t4, e3⟩
 ·rw [et, ek]
  exact rdT e2
 ·unfold stpC
  rw [ej]
  exact rdC hj
 ·unfold stpB
  rw [ej]
  exact rdI (by omega)
 ·unfold stpE
  rw [ej]
  exact rdI (by omega)
 ·have := hB.1.1
  unfold stpB
  rw [ej]
  split at this <;> omega
theorem Zd5 {c : Cw} (hR : Rng c) (p : Int) (h : stpK c p < c.l.length) : RngT (stpT c p) := hR.l _ (List.mem_of_getElem? (rdT h))
theorem Zd6 {c : Cw} {p : Int} (h : RngT (stpT c p)) : I64 (Pop.at (rd_T54 (stpT c p).f0) (stpT c p).f1 (stpT c p).f0.length) := ZeX (ZcV h.c) _ _
end Go.Proofs.YtgghglocfdcegaaGreat.Xec
namespace Go.Proofs.YtgghglocfdcegaaGreat.Xec
open Go Go.RowKit Go.Proofs.YtgghglocfdcegaaGreat.PFnExactCrewRun Go.Proofs.YtgghglocfdcegaaGreatW.PrintWords Plain
set_option linter.unusedVariables false
set_option linter.unusedSimpArgs false
set_option linter.unusedSectionVars false
set_option maxRecDepth 100000
set_option maxHeartbeats 16000000
theorem ZdF (a lo hi : Int) : PFnExactCrewRun.impl_within.f a lo hi = some (decide (lo ≤ a ∧ a ≤ hi)) := by
 unfold PFnExactCrewRun.impl_within.f
 by_cases h : a ≥ lo
 ·rw [if_pos h]
  have h' : lo ≤ a := h
  simp [h']
 ·rw [if_neg h]
  have h' : ¬ lo ≤ a := h
  simp [h']
def ZdB (a b : Int) : Option Int := if a = 1 then (if 1 ≤ b ∧ b ≤ 16 then some (1 + b) else none) else if a = 2 then (if 2 ≤ b ∧ b ≤ 16 then some (2 + 2 * b) else none) else if a = 3 then (if 1 ≤ b ∧ b ≤ 16 then some (1 + 2 * b) else none) else none
theorem Zfy (a b : Int) : ∃ p, (∀ k, 100 ≤ k → impl_cellsOf.f k a b false = some p) ∧ (match ZdB a b with | some n => p.2 = true ∧ (p.1.length : Int) = n | none => p.2 = false) := by
 unfold impl_cellsOf.f ZdB
 by_cases a1 : a = 1
 ·simp only [if_pos a1]
  unfold impl_StNew.f
  simp only [ZdF, Option.bind_some]
  by_cases h : 1 ≤ b ∧ b ≤ 16
  ·simp only [if_pos h, decide_eq_true_eq]
   rw [w64 (x := 1 + b) (by omega) (by omega)]
   refine ⟨(List.replicate (1 + b).toNat 0, true), fun k hk => ?_, rfl, by simp; omega⟩
   rw [if_pos (by omega), if_pos (by omega)]
   simp
  ·refine ⟨([], false), fun k hk => ?_, ?_⟩
   ·rw [if_neg (by simpa using h)]; rfl
   ·rw [if_neg h]
 ·simp only [if_neg a1]
  by_cases a2 : a = 2
  ·simp only [if_pos a2]
   by_cases h : 2 ≤ b ∧ b ≤ 16
   ·have all : ∀ m : Fin 15, (impl_RiNew.f 100 (((m : Nat) : Int) + 2)).map (fun p => ((p.1.length : Int), p.2)) = some (2 + 2 * (((m : Nat) : Int) + 2), true) := by decide +kernel
    have h1 := all ⟨(b - 2).toNat, by omega⟩
    rw [show (((⟨(b - 2).toNat, by omega⟩ : Fin 15) : Nat) : Int) + 2 = b by show (((b - 2).toNat : Nat) : Int) + 2 = b; omega] at h1
    obtain ⟨p, hp, hq⟩ := Option.map_eq_some_iff.1 h1
    injection hq with hq1 hq2
    refine ⟨p, fun k hk => ?_, ?_⟩
    ·rw [at_rounds (g := fun k => impl_RiNew.f k b) (fun k => impl_RiNew.mono b k) hk hp]; rfl
    ·rw [if_pos h]; exact ⟨hq2, hq1⟩
   ·refine ⟨([], false), fun k hk => ?_, ?_⟩
    ·unfold impl_RiNew.f
     simp only [ZdF, Option.bind_some]
     rw [if_neg (by simpa using h)]; rfl
    ·rw [if_neg h]
  ·simp only [if_neg a2]
   by_cases a3 : a = 3
   ·simp only [if_pos a3]
    unfold impl_LiNew.f
    simp only [ZdF, Option.bind_some]
    by_cases h : 1 ≤ b ∧ b ≤ 16
    ·simp only [if_pos h, decide_eq_true_eq]
     rw [w64 (x := 2 * b) (by omega) (by omega), w64 (x := 1 + 2 * b) (by omega) (by omega)]
     refine ⟨(List.replicate (1 + 2 * b).toNat 0, true), fun k hk => ?_, rfl, by simp; omega⟩
     rw [if_pos (by omega), if_pos (by omega)]
     simp
    ·refine ⟨([], false), fun k hk => ?_, ?_⟩
     ·rw [if_neg (by simpa using h)]; rfl
     ·rw [if_neg h]
   ·simp only [if_neg a3]
    exact ⟨([], false), fun k hk => rfl, rfl⟩
theorem Zgg (a b n : Int) : ZdB a b = some n ↔ Zae.F a = true ∧ Zx.F b = true ∧ ¬ (a = 2 ∧ b < 2) ∧ n = Z0.F a b := by
 unfold Zae.F Zx.F Z0.F Zae.f Zx.f Z0.f ZdB
 by_cases a1 : a = 1
 ·subst a1
  by_cases h : 1 ≤ b
  ·by_cases h2 : b ≤ 16
   ·simp [h, h2, w64 (x := 1 + b) (by omega) (by omega)]
    omega
   ·simp [h, h2]
  ·simp [h]
 ·by_cases a2 : a = 2
  ·subst a2
   by_cases h : 1 ≤ b
   ·by_cases h2 : b ≤ 16
    ·by_cases h3 : 2 ≤ b
     ·have : ¬ b < 2 := by omega
      simp [h, h2, h3, this, w64 (x := 2 * b) (by omega) (by omega), w64 (x := 2 + 2 * b) (by omega) (by omega)]
      omega
     ·have : b < 2 := by omega
      simp [h3, this]
    ·simp [h, h2]
   ·have : ¬ 2 ≤ b := by omega
    simp [h, this]
  ·by_cases a3 : a = 3
   ·subst a3
    by_cases h : 1 ≤ b
    ·by_cases h2 : b ≤ 16
     ·simp [h, h2, w64 (x := 2 * b) (by omega) (by omega), w64 (x := 1 + 2 * b) (by omega) (by omega)]
      omega
     ·simp [h, h2]
    ·simp [h]
   ·simp only [if_neg a1, if_neg a2, if_neg a3]
    constructor
    ·intro h
     cases h
    ·rintro ⟨h, -⟩
     exfalso
     split at h
     ·have : a ≤ 3 := by simpa using h
      omega
     ·simp at h
theorem Zgh (l : List S52) (hl : l.length ≤ 1048576) (d : Nat) : ∀ j : Nat, l.length - j = d → j ≤ l.length → ∀ k, d < k → spec_Able.l0 k (Zcv l j) l (l.length : Int) (j : Int) = some (ZaN l) ∧ impl_Able.l0 k (Zcv l j) l (l.length : Int) (j : Int) = some (ZaN l) := by
 induction d with
 | zero =>
   intro j hd hj k hk
   obtain ⟨k, rfl⟩ : ∃ m, k = m + 1 := ⟨k - 1, by omega⟩
   obtain rfl : j = l.length := by omega
   simp only [spec_Able.l0, impl_Able.l0]
   rw [if_neg (by omega), if_neg (by omega)]
   exact ⟨rfl, rfl⟩
 | succ d ih =>
   intro j hd hj k hk
   obtain ⟨k, rfl⟩ : ∃ m, k = m + 1 := ⟨k - 1, by omega⟩
   have g : (j : Int) < (l.length : Int) := by omega
   have g0 : 0 ≤ (j : Int) := by omega
   have gw : wrap64 ((j : Int) + 1) = ((j + 1 : Nat) : Int) := by rw [w64 (by omega) (by omega)]; omega
   have hle : (Zcv l j).length < 17592186044416 := by
    unfold Zcv
    rw [List.length_map]
    have := List.length_filter_le (Zfi l) (List.range j)
    rw [List.length_range] at this
    omega
   have := ih (j + 1) (by omega) (by omega) k (by omega)
   rw [ZeD] at this
   simp only [spec_Able.l0, impl_Able.l0]
   rw [if_pos g, if_pos g0, if_pos g, if_pos g, if_pos g0, if_pos g, gw]
   by_cases c : (rd_T52 l (j : Int)).f1 < (((rd_T52 l (j : Int)).f0).length : Int)
   ·rw [if_pos c] at this
    rw [if_pos c, if_pos c, if_pos hle, if_pos hle]
    exact this
   ·rw [if_neg c] at this
    rw [if_neg c, if_neg c]
    exact this
theorem ZfZ (a b : Int) (m : List Int) (l : List S52) (hl : l.length ≤ 1048576) (e : Int) : spec_Able.f (l.length + 1) a b m l e = some (ZaN l) ∧ impl_Able.f (l.length + 1) a b m l e = some (ZaN l) := Zgh l hl l.length 0 (by omega) (by omega) _ (by omega)
structure Zfj (c : Cw) : Prop where
 r : Rng c
 ll : c.l.length ≤ 1048576
 t : ∀ t ∈ c.l, t.f0.length ≤ 1048576 ∧ t.f2.length ≤ 1048576 ∧ t.f3.length ≤ 1048576
theorem Zfj.lens {c : Cw} (h : Zfj c) (i : Nat) (hi : i < c.l.length) : (rd_T52 c.l i).f0.length ≤ 1000000000 ∧ (rd_T52 c.l i).f2.length ≤ 1000000000 ∧ (rd_T52 c.l i).f3.length ≤ 1000000000 := by
 have := h.t _ (List.mem_of_getElem? (rdT hi))
 omega
section
variable (c : Cw) (hs : Zfj c) (p : Int) (hp : I64 p) (B2 : Option Addr) (k2 : Nat) (B3 : Option Addr) (k3 : Nat) (w : World) (h2 : (Kd.int .i64).C w B2 c.m.length c.m) (hc2 : c.m.length ≤ k2) (h3 : k52.C w B3 c.l.length c.l) (hc3 : c.l.length ≤ k3)
include hs h3
theorem ok_S : Calls Tryz.prog 20 #[crV c.wh c.sz B2 c.m.length k2 B3 c.l.length k3 c.ck] w fun e w2 => e = .returned (.bool (okB c)) ∧ Below w.heap.size w w2 :=
 ZdJ.walk c.wh c.sz c.ck B2 k2 c.m B3 k3 c.l w (okB c) (ZeZ c) h3
theorem ok_I : Calls Tryz.prog 26 #[crV c.wh c.sz B2 c.m.length k2 B3 c.l.length k3 c.ck] w fun e w2 => e = .returned (.bool (okB c)) ∧ Below w.heap.size w w2 := by
 obtain ⟨⟨r, ok⟩, hf, hN⟩ := Zfy c.wh c.sz
 refine ZdR.walk c.wh c.sz c.ck B2 k2 c.m B3 k3 c.l w (okB c) r ok ?_ (fun w' _ => impl_cellsOf.calls 100 c.wh c.sz false r ok w' (hf 100 (Nat.le_refl _))) h3
 rw [ZeZ]
 refine (Zga c hs.r.ck r ok ?_).symm
 rw [← Zgg]
 cases hc : ZdB c.wh c.sz with
 | none =>
   rw [hc] at hN
   obtain rfl : ok = false := hN
   simp
 | some n =>
   rw [hc] at hN
   obtain ⟨h1, h2⟩ : ok = true ∧ (r.length : Int) = n := hN
   rw [h1, h2]
   simp
include h2 hc2 hc3
theorem ZgF : Calls Tryz.prog 19 #[crV c.wh c.sz B2 c.m.length k2 B3 c.l.length k3 c.ck] w fun e w2 => ∃ v, e = .returned v ∧ (Kd.int .i64).R 3 w2 w.heap.size (fun _ => True) v (ZaN c.l) ∧ Below w.heap.size w w2 :=
 spec_Able.calls (c.l.length + 1) c.wh c.sz B2 k2 c.m B3 k3 c.l c.ck (ZaN c.l) w h2 hc2 h3 hc3 (ZfZ _ _ _ _ hs.ll _).1
theorem ZgG : Calls Tryz.prog 50 #[crV c.wh c.sz B2 c.m.length k2 B3 c.l.length k3 c.ck] w fun e w2 => ∃ v, e = .returned v ∧ (Kd.int .i64).R 3 w2 w.heap.size (fun _ => True) v (ZaN c.l) ∧ Below w.heap.size w w2 :=
 impl_Able.calls (c.l.length + 1) c.wh c.sz B2 k2 c.m B3 k3 c.l c.ck (ZaN c.l) w h2 hc2 h3 hc3 (ZfZ _ _ _ _ hs.ll _).2
theorem ZfX : Calls Tryz.prog 22 #[crV c.wh c.sz B2 c.m.length k2 B3 c.l.length k3 c.ck] w fun e w2 => ∃ v2 v3, e = .returned (cwV c v2 v3) ∧ Made w w2 c v2 v3 ∧ Below w.heap.size w w2 :=
 Zdj.walk c.wh c.sz c.ck B2 k2 c.m B3 k3 c.l w h2 hc2 h3 hc3 (by have := hs.r.ml; omega) (by have := hs.ll; omega) hs.lens
theorem ZfY : Calls Tryz.prog 34 #[crV c.wh c.sz B2 c.m.length k2 B3 c.l.length k3 c.ck] w fun e w2 => ∃ v2 v3, e = .returned (cwV c v2 v3) ∧ Made w w2 c v2 v3 ∧ Below w.heap.size w w2 :=
 Zc8.walk c.wh c.sz c.ck B2 k2 c.m B3 k3 c.l w h2 hc2 h3 hc3 (by have := hs.r.ml; omega) (by have := hs.ll; omega) hs.lens
include hp
theorem ZfK : Calls Tryz.prog 6 #[crV c.wh c.sz B2 c.m.length k2 B3 c.l.length k3 c.ck, .int .i64 p] w (Zdd w (stp c p)) := by
 have HA : ∀ w', Below w.heap.size w w' → Calls Tryz.prog 19 #[crV c.wh c.sz B2 c.m.length k2 B3 c.l.length k3 c.ck] w' fun e w2 => ∃ v, e = .returned v ∧ (Kd.int .i64).R 3 w2 w'.heap.size (fun _ => True) v (ZaN c.l) ∧ Below w'.heap.size w' w2 := fun w' hb => ZgF c hs B2 k2 B3 k3 w' (Kd.C_below h2 hb) hc2 (Kd.C_below h3 hb) hc3
 unfold stp
 by_cases h : okB c = true ∧ ¬ ZaN c.l = []
 ·obtain ⟨hok, hab⟩ := h
  rw [if_pos ⟨hok, hab⟩]
  obtain ⟨⟨e1, hM⟩, hk, hP, hkl, hb1, hj0, hj1⟩ := ZdL ((ZeZ c).1 hok) hab p hp
  refine (Zbn.go c.wh c.sz c.ck p B2 c.m.length k2 B3 c.l.length k3 w (ZaN c.l) c.m c.l (stpK c p) (stpJ c p) (stpT c p) (stpC c p) (stpB c p) (stpE c p) (stpR c p) HA (fun w' hb => ?_) (fun w' hb => ?_) (fun pl w' hb hC => ?_) hM hab hk hP).mono fun e w' h => h.step
  ·exact (ZfX c hs B2 k2 B3 k3 w' (Kd.C_below h2 hb) hc2 (Kd.C_below h3 hb) hc3).mono fun e w2 ⟨v2, v3, e1, hM, hb⟩ => ⟨v2, v3, e1, hM.1, hM.2, hb⟩
  ·rw [← hok]
   exact ok_S c hs B2 k2 B3 k3 w' (Kd.C_below h3 hb)
  ·exact ZbA.calls B2 k2 c.wh c.sz c.m (.slice B3 c.l.length k3) c.ck (some ⟨pl.gC, 0, none⟩) pl.cC (stpT c p).f0 (stpT c p).f1 (some ⟨pl.gB, 0, none⟩) (stpT c p).f2.length pl.cB (some ⟨pl.gE, 0, none⟩) (stpT c p).f3.length pl.cE w' hc2 (Kd.C_below h2 hb) hC hj0 hj1 (by have := hs.r.ml; omega)
 ·rw [if_neg h]
  refine (Zbn.zero c.wh c.sz c.ck p B2 c.m.length k2 B3 c.l.length k3 w (ZaN c.l) (okB c) HA (fun w' hb => ok_S c hs B2 k2 B3 k3 w' (Kd.C_below h3 hb)) ?_).mono fun e w' ⟨h1, h2⟩ => ⟨h2, h1⟩
  cases ho : okB c with
  | false => exact .inl rfl
  | true => exact .inr (Classical.not_not.1 fun hab => h ⟨ho, hab⟩)
theorem ZfL : Calls Tryz.prog 8 #[crV c.wh c.sz B2 c.m.length k2 B3 c.l.length k3 c.ck, .int .i64 p] w (Zdd w (stp c p)) := by
 have HA : ∀ w', Below w.heap.size w w' → Calls Tryz.prog 50 #[crV c.wh c.sz B2 c.m.length k2 B3 c.l.length k3 c.ck] w' fun e w2 => ∃ v, e = .returned v ∧ (Kd.int .i64).R 3 w2 w'.heap.size (fun _ => True) v (ZaN c.l) ∧ Below w'.heap.size w' w2 := fun w' hb => ZgG c hs B2 k2 B3 k3 w' (Kd.C_below h2 hb) hc2 (Kd.C_below h3 hb) hc3
 have key : stp c p = if okB c then stp c p else none := by
  cases ho : okB c with
  | true => rfl
  | false =>
    unfold stp
    rw [ho]
    rfl
 rw [key]
 refine Zc9.go c.wh c.sz c.ck p B2 c.m.length k2 B3 c.l.length k3 w (okB c) (stp c p) (fun w' hb => ok_I c hs B2 k2 B3 k3 w' (Kd.C_below h3 hb)) fun hok w1 hb1 => ?_
 have HA1 : ∀ w', Below w1.heap.size w1 w' → Calls Tryz.prog 50 #[crV c.wh c.sz B2 c.m.length k2 B3 c.l.length k3 c.ck] w' fun e w2 => ∃ v, e = .returned v ∧ (Kd.int .i64).R 3 w2 w'.heap.size (fun _ => True) v (ZaN c.l) ∧ Below w'.heap.size w' w2 := fun w' hb => HA w' (below_step hb1 hb)
 unfold stp
 by_cases hab : ZaN c.l = []
 ·rw [if_neg (fun h => h.2 hab)]
  rw [hab] at HA1
  exact (Zbt.zero c.wh c.sz c.ck p B2 c.m.length k2 B3 c.l.length k3 w1 HA1).mono fun e w' ⟨h1, h2⟩ => ⟨h2, h1⟩
 ·rw [if_pos ⟨hok, hab⟩]
  obtain ⟨⟨e1, hM⟩, hk, hP, hkl, hb1', hj0, hj1⟩ := ZdL ((ZeZ c).1 hok) hab p hp
  have hT := Zd5 hs.r p hkl
  have hcr := (Zfc c hs.r (stpC c p) (ZcV hT.c _) _ (Zd6 hT)).1
  have hif : (if stpB c p < 0 then c.ck else stpB c p) = if stpB c p = -1 then c.ck else stpB c p := by
   by_cases hb : stpB c p = -1
   ·rw [if_pos hb, if_pos (by omega)]
   ·rw [if_neg hb, if_neg (by omega)]
  rw [hif]
  unfold stpR
  rw [← hcr]
  refine (Zbt.go c.wh c.sz c.ck p B2 c.m.length k2 B3 c.l.length k3 w1 (ZaN c.l) c.m c.l (stpK c p) (stpJ c p) (stpT c p) (stpC c p) (stpB c p) (stpE c p) (stS Zg.F Zc.F Zh.F c.wh c.sz c.m) HA1 (fun w' hb => ?_) (fun y0 y1 y2 y3 y4 y5 y6 y7 y8 y9 w' hb => ?_) (e1 ▸ hM) hab (e1 ▸ hk) hP).mono fun e w' h => h.step
  ·have hb := below_step hb1 hb
   exact (ZfY c hs B2 k2 B3 k3 w' (Kd.C_below h2 hb) hc2 (Kd.C_below h3 hb) hc3).mono fun e w2 ⟨v2, v3, e1, hM, hb⟩ => ⟨v2, v3, e1, hM.1, hM.2, hb⟩
  ·exact ZbC.calls B2 k2 c.wh c.sz c.m (.slice B3 c.l.length k3) c.ck y0 y1 y2 y3 y4 y5 y6 y7 y8 y9 w' hc2 (Kd.C_below h2 (below_step hb1 hb))
end
theorem Zcl {α : Type} {P : α → Prop} {l : List α} (h : ∀ x ∈ l, P x) {j : Nat} {y : α} (hy : P y) : ∀ x ∈ l.set j y, P x := fun x hx => (List.mem_or_eq_of_mem_set hx).elim (h x) fun e => e ▸ hy
theorem ZcU {P : Int → Prop} (h0 : P 0) {l : List Int} (h : ∀ x ∈ l, P x) (i : Int) : P (rd l i) := by
 unfold rd
 rw [List.getD_eq_getElem?_getD]
 cases e : l[i.toNat]? with
 | none => exact h0
 | some y => exact h y (List.mem_of_getElem? e)
def szC (c : Cw) : Int := c.m.length + szT c.l
structure Good (N : Int) (c : Cw) : Prop where
 s : Zfj c
 n : szC c ≤ N
theorem ZeR : ∀ (l : List S52) (k : Nat) (t : S52), l[k]?.map s1T = some (s1T t) → szT (l.set k t) = szT l
 | [], k, t, h => rfl
 | x :: l, 0, t, h => by
   have : s1T x = s1T t := by simpa using h
   simp [szT, this]
 | x :: l, k + 1, t, h => by
   have := ZeR l k t (by simpa using h)
   simp [szT, this]
theorem Zb7 {N : Int} {c c' : Cw} {p : Int} (hp : I64 p) (hc : Good N c) (h : stp c p = some c') : Good N c' := by
 obtain ⟨hs, hn⟩ := hc
 unfold stp at h
 split at h
 ·rename_i ho
  obtain ⟨hok, hab⟩ := ho
  obtain ⟨-, hk, hP, hkl, hb1', hj0, hj1⟩ := ZdL ((ZeZ c).1 hok) hab p hp
  split at h
  ·injection h with h
   subst h
   have hT := Zd5 hs.r p hkl
   have hr := (Zfc c hs.r (stpC c p) (ZcV hT.c _) _ (Zd6 hT)).2
   have h0 : I64 0 := Plain.Gd
   have ht := hs.t _ (List.mem_of_getElem? hP.ht)
   refine ⟨⟨⟨Nat.le_trans hr.ml hs.r.ml, hr.m, ?_, ZbJ _⟩, ?_, ?_⟩, ?_⟩
   ·refine Zcl hs.r.l ⟨Zcl hT.c hr.c, ?_, Zcl hT.b ?_, Zcl hT.e ?_⟩
    ·show I64 (if _ then _ else _)
     split
     ·exact ZbJ _
     ·exact hT.a
    ·split
     ·exact hs.r.ck
     ·exact ZcU h0 hT.b _
    ·split
     ·exact hs.r.ck
     ·exact ZcU h0 hT.e _
   ·show (List.set _ _ _).length ≤ _
    rw [List.length_set]
    exact hs.ll
   ·refine Zcl hs.t ?_
    simpa only [List.length_set] using ht
   ·have e : szT (crL c.l (stpK c p) (stpJ c p) (stpT c p) (if stpB c p < 0 then c.ck else stpB c p) (stpE c p) c.ck (stpR c p)) = szT c.l := by
     refine ZeR _ _ _ ?_
     rw [hP.ht]
     simp [s1T]
    have := hr.ml
    unfold szC at hn ⊢
    rw [e]
    show ((stpR c p).m.length : Int) + _ ≤ N
    have : (stpR c p).m.length ≤ c.m.length := hr.ml
    omega
  ·cases h
 ·cases h
end Go.Proofs.YtgghglocfdcegaaGreat.Xec
