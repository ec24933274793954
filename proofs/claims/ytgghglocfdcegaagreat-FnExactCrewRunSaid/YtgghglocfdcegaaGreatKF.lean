/- Part F of the proof of FnExactCrewStep and FnExactCrewRun (wip/xec, pack.py). No condition. -/
import Derived.Test.YtgghglocfdcegaaGreatKC
import Derived.Test.YtgghglocfdcegaaGreatKE
import Derived.Test.YtgghglocfdcegaaGreatKD
namespace Go.Proofs.YtgghglocfdcegaaGreat.Xec
open Go Go.RowKit Go.Proofs.YtgghglocfdcegaaGreat.PFnExactCrewRun Go.Proofs.YtgghglocfdcegaaGreatW.PrintWords
set_option linter.unusedVariables false
set_option linter.unusedSimpArgs false
set_option maxRecDepth 100000
set_option maxHeartbeats 16000000
def Zb.f (s0_0 s0_1 s0_2 s0_3 s0_4 s0_5 s0_6 s0_7 s0_8 : Int) (s0_9 : Bool) (a1 : Int) : Option (TC) := some (s0_0, s0_1, s0_2, s0_3, s0_4, s0_5, s0_6, a1, s0_8, true)
def Zb.F (s0_0 s0_1 s0_2 s0_3 s0_4 s0_5 s0_6 s0_7 s0_8 : Int) (s0_9 : Bool) (a1 : Int) : TC := (Zb.f s0_0 s0_1 s0_2 s0_3 s0_4 s0_5 s0_6 s0_7 s0_8 s0_9 a1).getD (0, 0, 0, 0, 0, 0, 0, 0, 0, false)
theorem Zb.f.isS (s0_0 s0_1 s0_2 s0_3 s0_4 s0_5 s0_6 s0_7 s0_8 : Int) (s0_9 : Bool) (a1 : Int) : ∃ r, Zb.f s0_0 s0_1 s0_2 s0_3 s0_4 s0_5 s0_6 s0_7 s0_8 s0_9 a1 = some r := by
 unfold Zb.f
 repeat' (first | exact ⟨_, rfl⟩ | (exfalso; omega) | split)
theorem Zb.tot (s0_0 s0_1 s0_2 s0_3 s0_4 s0_5 s0_6 s0_7 s0_8 : Int) (s0_9 : Bool) (a1 : Int) : Zb.f s0_0 s0_1 s0_2 s0_3 s0_4 s0_5 s0_6 s0_7 s0_8 s0_9 a1 = some (Zb.F s0_0 s0_1 s0_2 s0_3 s0_4 s0_5 s0_6 s0_7 s0_8 s0_9 a1) := by
 obtain ⟨r, h⟩ := Zb.f.isS s0_0 s0_1 s0_2 s0_3 s0_4 s0_5 s0_6 s0_7 s0_8 s0_9 a1
 unfold Zb.F
 rw [h]
 rfl
def Zb.g (cs : List AV) : List AV → Option (List AV × AV)
 | [ya1] => (dC (.agg cs)).bind fun c => (i1 ya1).bind fun a1 => some ([.int ((Zb.F c.f0 c.f1 c.f2 c.f3 c.f4 c.f5 c.f6 c.f7 c.f8 c.f9 a1).1), .int ((Zb.F c.f0 c.f1 c.f2 c.f3 c.f4 c.f5 c.f6 c.f7 c.f8 c.f9 a1).2.1), .int ((Zb.F c.f0 c.f1 c.f2 c.f3 c.f4 c.f5 c.f6 c.f7 c.f8 c.f9 a1).2.2.1), .int ((Zb.F c.f0 c.f1 c.f2 c.f3 c.f4 c.f5 c.f6 c.f7 c.f8 c.f9 a1).2.2.2.1), .int ((Zb.F c.f0 c.f1 c.f2 c.f3 c.f4 c.f5 c.f6 c.f7 c.f8 c.f9 a1).2.2.2.2.1), .int ((Zb.F c.f0 c.f1 c.f2 c.f3 c.f4 c.f5 c.f6 c.f7 c.f8 c.f9 a1).2.2.2.2.2.1), .int ((Zb.F c.f0 c.f1 c.f2 c.f3 c.f4 c.f5 c.f6 c.f7 c.f8 c.f9 a1).2.2.2.2.2.2.1), .int ((Zb.F c.f0 c.f1 c.f2 c.f3 c.f4 c.f5 c.f6 c.f7 c.f8 c.f9 a1).2.2.2.2.2.2.2.1), .int ((Zb.F c.f0 c.f1 c.f2 c.f3 c.f4 c.f5 c.f6 c.f7 c.f8 c.f9 a1).2.2.2.2.2.2.2.2.1), .bool ((Zb.F c.f0 c.f1 c.f2 c.f3 c.f4 c.f5 c.f6 c.f7 c.f8 c.f9 a1).2.2.2.2.2.2.2.2.2)], .tup [])
 | _ => none
theorem Zb.walk (s0_0 s0_1 s0_2 s0_3 s0_4 s0_5 s0_6 s0_7 s0_8 : Int) (s0_9 : Bool) (a1 : Int) : ZeE 53 [] [] 5 900 [.int s0_0, .int s0_1, .int s0_2, .int s0_3, .int s0_4, .int s0_5, .int s0_6, .int s0_7, .int s0_8, .bool s0_9] [.int a1] (AV.vs R0 [.int ((Zb.F s0_0 s0_1 s0_2 s0_3 s0_4 s0_5 s0_6 s0_7 s0_8 s0_9 a1).1), .int ((Zb.F s0_0 s0_1 s0_2 s0_3 s0_4 s0_5 s0_6 s0_7 s0_8 s0_9 a1).2.1), .int ((Zb.F s0_0 s0_1 s0_2 s0_3 s0_4 s0_5 s0_6 s0_7 s0_8 s0_9 a1).2.2.1), .int ((Zb.F s0_0 s0_1 s0_2 s0_3 s0_4 s0_5 s0_6 s0_7 s0_8 s0_9 a1).2.2.2.1), .int ((Zb.F s0_0 s0_1 s0_2 s0_3 s0_4 s0_5 s0_6 s0_7 s0_8 s0_9 a1).2.2.2.2.1), .int ((Zb.F s0_0 s0_1 s0_2 s0_3 s0_4 s0_5 s0_6 s0_7 s0_8 s0_9 a1).2.2.2.2.2.1), .int ((Zb.F s0_0 s0_1 s0_2 s0_3 s0_4 s0_5 s0_6 s0_7 s0_8 s0_9 a1).2.2.2.2.2.2.1), .int ((Zb.F s0_0 s0_1 s0_2 s0_3 s0_4 s0_5 s0_6 s0_7 s0_8 s0_9 a1).2.2.2.2.2.2.2.1), .int ((Zb.F s0_0 s0_1 s0_2 s0_3 s0_4 s0_5 s0_6 s0_7 s0_8 s0_9 a1).2.2.2.2.2.2.2.2.1), .bool ((Zb.F s0_0 s0_1 s0_2 s0_3 s0_4 s0_5 s0_6 s0_7 s0_8 s0_9 a1).2.2.2.2.2.2.2.2.2)]) (.tuple #[]) := by
 refine w3 fun m' O hv hO => ⟨_, _, Tryz.func53, rfl, by kernel_rfl, Nat.le_of_ble_eq_true rfl, ?_⟩
 (try cbv)
 repeat' (apply And.intro <;> (try intro h) <;> (try cbv))
 all_goals (subst hv hO; (try dsimp only [std] at *); (try simp only [nt_] at *)) <;> (first | rfl | exact ⟨rfl, rfl⟩ | (simp only [Zb.F, Zb.f, AV.v, AV.vs, ZZ, rowI, ZaA, nv_, reduceIte, *]; done) | (simp only [Zb.F, Zb.f, AV.v, AV.vs, ZZ, rowI, ZaA, nv_, reduceIte, *]; exact ⟨rfl, rfl⟩) | (simp_all (maxSteps := 1000000) [std, Zb.F, Zb.f, AV.v, AV.vs, ZZ, rowI, ZaA]; done) | (simp only [Zb.F, Zb.f, AV.v, AV.vs, ZZ, rowI, ZaA, nv_, reduceIte, *]; (repeat' split) <;> first | rfl | exact ⟨rfl, rfl⟩ | (exfalso; omega) | omega | (simp_all; done) | (simp_all; omega)) | (simp_all (maxSteps := 1000000) [std, Zb.F, Zb.f, AV.v, AV.vs, ZZ, rowI, ZaA]; (repeat' split) <;> first | rfl | exact ⟨rfl, rfl⟩ | (exfalso; omega) | omega | (simp_all; done) | (simp_all; omega)))
theorem Zb.me : Me 53 Zb.g := by
 refine ⟨⟨_, Tryz.func53, rfl, rfl⟩, fun R cs l cs' v hg => ?_⟩
 unfold Zb.g at hg
 split at hg
 ·rename_i ya1
  obtain ⟨c, e, hg⟩ := Option.bind_eq_some_iff.1 hg
  obtain ⟨a1, ea1, hg⟩ := Option.bind_eq_some_iff.1 hg
  injection hg with hg
  injection hg with h1 h2
  subst h1 h2
  obtain ⟨d1, d2⟩ := Zcc e R
  refine ⟨d2.symm, fun w b ty hb => ?_⟩
  rw [d1] at hb
  have := (Zb.walk c.f0 c.f1 c.f2 c.f3 c.f4 c.f5 c.f6 c.f7 c.f8 c.f9 a1).calls ZW Zap w b ty hb
  simpa only [AV.vs, AV.v, i1_v R ea1] using this
 ·cases hg
def Zk.f (s0_0 s0_1 s0_2 s0_3 s0_4 s0_5 s0_6 s0_7 s0_8 : Int) (s0_9 : Bool) : Option (TC) := some (s0_0, s0_1, s0_2, 0, 0, s0_5, s0_6, s0_7, s0_8, s0_9)
def Zk.F (s0_0 s0_1 s0_2 s0_3 s0_4 s0_5 s0_6 s0_7 s0_8 : Int) (s0_9 : Bool) : TC := (Zk.f s0_0 s0_1 s0_2 s0_3 s0_4 s0_5 s0_6 s0_7 s0_8 s0_9).getD (0, 0, 0, 0, 0, 0, 0, 0, 0, false)
theorem Zk.f.isS (s0_0 s0_1 s0_2 s0_3 s0_4 s0_5 s0_6 s0_7 s0_8 : Int) (s0_9 : Bool) : ∃ r, Zk.f s0_0 s0_1 s0_2 s0_3 s0_4 s0_5 s0_6 s0_7 s0_8 s0_9 = some r := by
 unfold Zk.f
 repeat' (first | exact ⟨_, rfl⟩ | (exfalso; omega) | split)
theorem Zk.tot (s0_0 s0_1 s0_2 s0_3 s0_4 s0_5 s0_6 s0_7 s0_8 : Int) (s0_9 : Bool) : Zk.f s0_0 s0_1 s0_2 s0_3 s0_4 s0_5 s0_6 s0_7 s0_8 s0_9 = some (Zk.F s0_0 s0_1 s0_2 s0_3 s0_4 s0_5 s0_6 s0_7 s0_8 s0_9) := by
 obtain ⟨r, h⟩ := Zk.f.isS s0_0 s0_1 s0_2 s0_3 s0_4 s0_5 s0_6 s0_7 s0_8 s0_9
 unfold Zk.F
 rw [h]
 rfl
def Zk.g (cs : List AV) : List AV → Option (List AV × AV)
 | [] => (dC (.agg cs)).bind fun c => some ([.int ((Zk.F c.f0 c.f1 c.f2 c.f3 c.f4 c.f5 c.f6 c.f7 c.f8 c.f9).1), .int ((Zk.F c.f0 c.f1 c.f2 c.f3 c.f4 c.f5 c.f6 c.f7 c.f8 c.f9).2.1), .int ((Zk.F c.f0 c.f1 c.f2 c.f3 c.f4 c.f5 c.f6 c.f7 c.f8 c.f9).2.2.1), .int ((Zk.F c.f0 c.f1 c.f2 c.f3 c.f4 c.f5 c.f6 c.f7 c.f8 c.f9).2.2.2.1), .int ((Zk.F c.f0 c.f1 c.f2 c.f3 c.f4 c.f5 c.f6 c.f7 c.f8 c.f9).2.2.2.2.1), .int ((Zk.F c.f0 c.f1 c.f2 c.f3 c.f4 c.f5 c.f6 c.f7 c.f8 c.f9).2.2.2.2.2.1), .int ((Zk.F c.f0 c.f1 c.f2 c.f3 c.f4 c.f5 c.f6 c.f7 c.f8 c.f9).2.2.2.2.2.2.1), .int ((Zk.F c.f0 c.f1 c.f2 c.f3 c.f4 c.f5 c.f6 c.f7 c.f8 c.f9).2.2.2.2.2.2.2.1), .int ((Zk.F c.f0 c.f1 c.f2 c.f3 c.f4 c.f5 c.f6 c.f7 c.f8 c.f9).2.2.2.2.2.2.2.2.1), .bool ((Zk.F c.f0 c.f1 c.f2 c.f3 c.f4 c.f5 c.f6 c.f7 c.f8 c.f9).2.2.2.2.2.2.2.2.2)], .tup [])
 | _ => none
theorem Zk.walk (s0_0 s0_1 s0_2 s0_3 s0_4 s0_5 s0_6 s0_7 s0_8 : Int) (s0_9 : Bool) : ZeE 115 [] [] 5 900 [.int s0_0, .int s0_1, .int s0_2, .int s0_3, .int s0_4, .int s0_5, .int s0_6, .int s0_7, .int s0_8, .bool s0_9] [] (AV.vs R0 [.int ((Zk.F s0_0 s0_1 s0_2 s0_3 s0_4 s0_5 s0_6 s0_7 s0_8 s0_9).1), .int ((Zk.F s0_0 s0_1 s0_2 s0_3 s0_4 s0_5 s0_6 s0_7 s0_8 s0_9).2.1), .int ((Zk.F s0_0 s0_1 s0_2 s0_3 s0_4 s0_5 s0_6 s0_7 s0_8 s0_9).2.2.1), .int ((Zk.F s0_0 s0_1 s0_2 s0_3 s0_4 s0_5 s0_6 s0_7 s0_8 s0_9).2.2.2.1), .int ((Zk.F s0_0 s0_1 s0_2 s0_3 s0_4 s0_5 s0_6 s0_7 s0_8 s0_9).2.2.2.2.1), .int ((Zk.F s0_0 s0_1 s0_2 s0_3 s0_4 s0_5 s0_6 s0_7 s0_8 s0_9).2.2.2.2.2.1), .int ((Zk.F s0_0 s0_1 s0_2 s0_3 s0_4 s0_5 s0_6 s0_7 s0_8 s0_9).2.2.2.2.2.2.1), .int ((Zk.F s0_0 s0_1 s0_2 s0_3 s0_4 s0_5 s0_6 s0_7 s0_8 s0_9).2.2.2.2.2.2.2.1), .int ((Zk.F s0_0 s0_1 s0_2 s0_3 s0_4 s0_5 s0_6 s0_7 s0_8 s0_9).2.2.2.2.2.2.2.2.1), .bool ((Zk.F s0_0 s0_1 s0_2 s0_3 s0_4 s0_5 s0_6 s0_7 s0_8 s0_9).2.2.2.2.2.2.2.2.2)]) (.tuple #[]) := by
 refine w3 fun m' O hv hO => ⟨_, _, Tryz.func115, rfl, by kernel_rfl, Nat.le_of_ble_eq_true rfl, ?_⟩
 (try cbv)
 repeat' (apply And.intro <;> (try intro h) <;> (try cbv))
 all_goals (subst hv hO; (try dsimp only [std] at *); (try simp only [nt_] at *)) <;> (first | rfl | exact ⟨rfl, rfl⟩ | (simp only [Zk.F, Zk.f, AV.v, AV.vs, ZZ, rowI, ZaA, nv_, reduceIte, *]; done) | (simp only [Zk.F, Zk.f, AV.v, AV.vs, ZZ, rowI, ZaA, nv_, reduceIte, *]; exact ⟨rfl, rfl⟩) | (simp_all (maxSteps := 1000000) [std, Zk.F, Zk.f, AV.v, AV.vs, ZZ, rowI, ZaA]; done) | (simp only [Zk.F, Zk.f, AV.v, AV.vs, ZZ, rowI, ZaA, nv_, reduceIte, *]; (repeat' split) <;> first | rfl | exact ⟨rfl, rfl⟩ | (exfalso; omega) | omega | (simp_all; done) | (simp_all; omega)) | (simp_all (maxSteps := 1000000) [std, Zk.F, Zk.f, AV.v, AV.vs, ZZ, rowI, ZaA]; (repeat' split) <;> first | rfl | exact ⟨rfl, rfl⟩ | (exfalso; omega) | omega | (simp_all; done) | (simp_all; omega)))
theorem Zk.me : Me 115 Zk.g := by
 refine ⟨⟨_, Tryz.func115, rfl, rfl⟩, fun R cs l cs' v hg => ?_⟩
 unfold Zk.g at hg
 split at hg
 ·skip
  obtain ⟨c, e, hg⟩ := Option.bind_eq_some_iff.1 hg
  injection hg with hg
  injection hg with h1 h2
  subst h1 h2
  obtain ⟨d1, d2⟩ := Zcc e R
  refine ⟨d2.symm, fun w b ty hb => ?_⟩
  rw [d1] at hb
  have := (Zk.walk c.f0 c.f1 c.f2 c.f3 c.f4 c.f5 c.f6 c.f7 c.f8 c.f9).calls ZW Zap w b ty hb
  simpa only [AV.vs, AV.v] using this
 ·cases hg
end Go.Proofs.YtgghglocfdcegaaGreat.Xec
namespace Go.Proofs.YtgghglocfdcegaaGreat.Xec
open Go Go.RowKit Go.Proofs.YtgghglocfdcegaaGreat.PFnExactCrewRun Go.Proofs.YtgghglocfdcegaaGreatW.PrintWords
set_option linter.unusedVariables false
set_option linter.unusedSimpArgs false
def Zfs : Row := { a := none, g := 0, p := 0, n := 0, c := 0, sz := 0, get := fun _ => [] }
def winR (g n c sz b : Nat) (i : Int) : Row := { a := some ⟨g, 0, none⟩, g := 0, p := 0, n := n, c := c, sz := sz, get := fun _ => [], win := some b, at_ := i }
def winB (g n c sz b : Nat) (i : Int) (p q : List Value) (ty : Nat) : Row := { a := some ⟨g, 0, none⟩, g := 0, p := 0, n := n, c := c, sz := sz, get := fun _ => [], win := some b, at_ := i, pre := p, post := q, wn := true, ty := ty }
def boxR (p q : List Value) (ty : Nat) : Row := { a := none, g := 0, p := 0, n := 0, c := 0, sz := 0, get := fun _ => [], pre := p, post := q, wn := true, ty := ty }
def ZbH (r : Row) (p : Pl) (t : S52) (n : Nat) (k j : Int) : Nat → Row
 | 0 => { a := r.a, g := r.g, p := r.p, n := r.n, c := r.c, sz := r.sz, get := r.get }
 | 1 => winR p.g n p.cap 4 2 k
 | 2 => winB p.gC t.f0.length p.cC 10 3 j p.pT p.qT 52
 | 3 => winB p.gB t.f2.length p.cB 1 4 j p.pC p.qC 54
 | 4 => winB p.gE t.f3.length p.cE 1 5 j p.pB p.qB 3
 | 5 => boxR p.pE p.qE 3
 | _ => Zfs
def Zb6 (d : Nat → Nat) (p : Pl) : Nat → Nat
 | 0 => d 0
 | 1 => d 1
 | 2 => p.g
 | 3 => p.gC
 | 4 => p.gB
 | 5 => p.gE
 | _ => 0
def ZcE (O : Ops) (L : List (FuncId × (List AV → Option AV))) (M : List (FuncId × (List AV → List AV → Option (List AV × AV)))) (R : Nat → Row) : Cx := ⟨tab, O, R, look L, ZeA M, fun _ => none⟩
theorem ZdT {R : Nat → Row} {w : World} {A : Option Addr} {c : Nat} {l : List Int} {r : Nat} (hr : R r = rowI A c l) (h : (Kd.int .i64).C w A l.length l) {S : Nat → Prop} (hfar : ∀ a, A = some a → ¬ S a.block) : ZaV R S w r := by
 intro hw i hi
 obtain ⟨e1, -, e3, e4, e5⟩ := ZaI hr h hw i hi
 refine ⟨e1, ?_, e3, e4, e5⟩
 have e6 : (R r).a = A := by rw [hr]; rfl
 rw [e6] at e1
 exact hfar _ e1
theorem Zbf {w : World} {A : Option Addr} {c : Nat} {l : List Int} (h : (Kd.int .i64).C w A l.length l) {S : Nat → Prop} (hfar : ∀ a, A = some a → ¬ S a.block) : ∀ i, ZaV (ZZ [rowI A c l]) S w i
 | 0 => ZdT (R := ZZ [rowI A c l]) (r := 0) (A := A) (c := c) (l := l) rfl h hfar
 | i + 1 => Zax rfl
theorem Zar {B : Nat} {w w2 w3 : World} {S : Nat → Prop} (h : Below B w w2) (hu : Upd S w2 w3) (hS : ∀ k, S k → B ≤ k) (hB : B ≤ w2.heap.size) : Below B w w3 :=
 h.trans ⟨hu.os, hu.tape, hu.output, hu.size, fun k hk => hu.block k (Nat.lt_of_lt_of_le hk hB) (fun hs => Nat.not_le_of_lt hk (hS k hs))⟩
theorem Zcd {O : Ops} (hO : O = std) {L : List (FuncId × (List AV → Option AV))} (hL : All L) {M : List (FuncId × (List AV → List AV → Option (List AV × AV)))} (hM : AllM M) {w : World} {A : Option Addr} {cA : Nat} {ab : List Int} (hab : (Kd.int .i64).C w A ab.length ab) {d : Nat → Nat} {p : Pl} (hfar : ∀ a, A = some a → ∀ i, i < 6 → Zb6 d p i ≠ a.block)
 {base : Nat} {ok : Nat → Prop} {v : Value} {l : List S52} {k j : Nat} {t : S52} {c : S54} {b e : Int} (h : Lent p w base ok v l k j t c b e) (hk : k < l.length) (h0 : j < t.f0.length) (h2 : j < t.f2.length) (h3 : j < t.f3.length) : CxOk Tryz.prog (ZcE O L M (ZbH (rowI A cA ab) p t l.length k j)) (Zb6 d p) 6 w := by
 refine ⟨ZcF, ZcG, hO, fun r => ?_, fun f g l v h1 h2 => ⟨(hL f g h1).fn, fun w _ => (hL f g h1).run _ l v h2 w⟩, fun f g cs l' cs' v' h1 h2 => ⟨(hM f g h1).fn, ((hM f g h1).run (ZbH (rowI A cA ab) p t l.length k j) cs l' cs' v' h2).1, fun w b ty _ => ((hM f g h1).run (ZbH (rowI A cA ab) p t l.length k j) cs l' cs' v' h2).2 w b ty⟩, fun _ _ _ _ _ h => (by cases h), fun i hi => ?_, fun i hi => ?_, fun r q hq => ?_⟩
 ·match r with
  | 0 => exact ZdT (R := ZbH (rowI A cA ab) p t l.length k j) (S := Bx (Zb6 d p) 6) (A := A) (c := cA) (l := ab) rfl hab (fun a ha ⟨i, hi, he⟩ => hfar a ha i hi he.symm)
  | 1 => exact fun hw => by cases hw
  | 2 => exact fun hw => by cases hw
  | 3 => exact fun hw => by cases hw
  | 4 => exact fun hw => by cases hw
  | 5 => exact fun _ i hi => absurd hi (Nat.not_lt_zero _)
  | r + 6 => exact fun _ i hi => absurd hi (Nat.not_lt_zero _)
 ·match i, hi with
  | 0, _ => exact ⟨rfl, rfl⟩
  | 1, _ => exact ⟨rfl, rfl⟩
  | i + 6, _ => exact ⟨rfl, rfl⟩
  | 2, hi => cases hi
  | 3, hi => cases hi
  | 4, hi => cases hi
  | 5, hi => cases hi
 ·match i, hi with
  | i + 6, _ => rfl
 ·match r, hq with
  | 0, hq => cases hq
  | 1, hq => injection hq with hq; subst hq; exact ⟨by decide, rfl, Int.natCast_nonneg _, Int.ofNat_lt.2 hk, h.pT⟩
  | 2, hq => injection hq with hq; subst hq; exact ⟨by decide, rfl, Int.natCast_nonneg _, Int.ofNat_lt.2 h0, h.pC⟩
  | 3, hq => injection hq with hq; subst hq; exact ⟨by decide, rfl, Int.natCast_nonneg _, Int.ofNat_lt.2 h2, h.pB⟩
  | 4, hq => injection hq with hq; subst hq; exact ⟨by decide, rfl, Int.natCast_nonneg _, Int.ofNat_lt.2 h3, h.pE⟩
  | 5, hq => cases hq
  | r + 6, hq => cases hq
theorem ZcO {w : World} {r : Row} {d : Nat → Nat} {p : Pl} {base : Nat} {ok : Nat → Prop} {v : Value} {l : List S52} {n k j : Nat} {kI jI : Int} {t : S52} {c : S54} {b e : Int} (h : Lent p w base ok v l k j t c b e) {c0 c1 : List AV} {t0 t1 : Nat} (h0 : w.heap[d 0]? = some (.cells (AV.vs (ZbH r p t n kI jI) c0).toArray t0 (0, 0))) (h1 : w.heap[d 1]? = some (.cells (AV.vs (ZbH r p t n kI jI) c1).toArray t1 (0, 0))) (hne : d 0 ≠ d 1) (hb0 : d 0 < base) (hb1 : d 1 < base) :
 Zak (ZbH r p t n kI jI) (Zb6 d p) 6 w (Zb6 d p) [c0, c1, [.sl 2, .int t.f1, .sl 3, .sl 4], ZaE (clA c), [.int b], [.int e]] w := by
 obtain ⟨n1, n2, n3, n4, n5, n6⟩ := h.ne
 obtain ⟨g1, g2, g3, g4⟩ := h.ge
 refine ⟨fun i cs hi => ?_, fun i i' hi hi' he => ?_, Nat.le_refl _, fun _ _ => rfl, fun i h1 h2 => by simp at h2; omega, Upd.refl _ _⟩
 ·match i, hi with
  | 0, hi => injection hi with hi; subst hi; exact ⟨t0, fun h => (by cases h), by show w.heap[d 0]? = _; rw [h0]; simp [ZbH]⟩
  | 1, hi => injection hi with hi; subst hi; exact ⟨t1, fun h => (by cases h), by show w.heap[d 1]? = _; rw [h1]; simp [ZbH, winR]⟩
  | 2, hi => injection hi with hi; subst hi; exact ⟨52, fun _ => rfl, h.held.T⟩
  | 3, hi => injection hi with hi; subst hi; exact ⟨54, fun _ => rfl, h.held.C⟩
  | 4, hi => injection hi with hi; subst hi; exact ⟨3, fun _ => rfl, h.held.B⟩
  | 5, hi => injection hi with hi; subst hi; exact ⟨3, fun _ => rfl, h.held.E⟩
  | i + 6, hi => cases hi
 ·match i, i', hi, hi', he with
  | 0, 0, _, _, _ => rfl
  | 1, 1, _, _, _ => rfl
  | 2, 2, _, _, _ => rfl
  | 3, 3, _, _, _ => rfl
  | 4, 4, _, _, _ => rfl
  | 5, 5, _, _, _ => rfl
  | 0, 1, _, _, he => exact absurd he hne
  | 1, 0, _, _, he => exact absurd he.symm hne
  | 0, 2, _, _, he => exact absurd he (by show d 0 ≠ p.g; omega)
  | 0, 3, _, _, he => exact absurd he (by show d 0 ≠ p.gC; omega)
  | 0, 4, _, _, he => exact absurd he (by show d 0 ≠ p.gB; omega)
  | 0, 5, _, _, he => exact absurd he (by show d 0 ≠ p.gE; omega)
  | 2, 0, _, _, he => exact absurd he (by show p.g ≠ d 0; omega)
  | 3, 0, _, _, he => exact absurd he (by show p.gC ≠ d 0; omega)
  | 4, 0, _, _, he => exact absurd he (by show p.gB ≠ d 0; omega)
  | 5, 0, _, _, he => exact absurd he (by show p.gE ≠ d 0; omega)
  | 1, 2, _, _, he => exact absurd he (by show d 1 ≠ p.g; omega)
  | 1, 3, _, _, he => exact absurd he (by show d 1 ≠ p.gC; omega)
  | 1, 4, _, _, he => exact absurd he (by show d 1 ≠ p.gB; omega)
  | 1, 5, _, _, he => exact absurd he (by show d 1 ≠ p.gE; omega)
  | 2, 1, _, _, he => exact absurd he (by show p.g ≠ d 1; omega)
  | 3, 1, _, _, he => exact absurd he (by show p.gC ≠ d 1; omega)
  | 4, 1, _, _, he => exact absurd he (by show p.gB ≠ d 1; omega)
  | 5, 1, _, _, he => exact absurd he (by show p.gE ≠ d 1; omega)
  | 2, 3, _, _, he => exact absurd he n1
  | 2, 4, _, _, he => exact absurd he n2
  | 2, 5, _, _, he => exact absurd he n3
  | 3, 4, _, _, he => exact absurd he n4
  | 3, 5, _, _, he => exact absurd he n5
  | 4, 5, _, _, he => exact absurd he n6
  | 3, 2, _, _, he => exact absurd he.symm n1
  | 4, 2, _, _, he => exact absurd he.symm n2
  | 5, 2, _, _, he => exact absurd he.symm n3
  | 4, 3, _, _, he => exact absurd he.symm n4
  | 5, 3, _, _, he => exact absurd he.symm n5
  | 5, 4, _, _, he => exact absurd he.symm n6
  | i + 6, _, hi, _, _ => exact absurd (show i + 6 < 6 from hi) (by omega)
  | _, i + 6, _, hi, _ => exact absurd (show i + 6 < 6 from hi) (by omega)
theorem ZbU {w w' : World} {r : Row} {d d' : Nat → Nat} {p : Pl} {base : Nat} {ok : Nat → Prop} {v : Value} {l : List S52} {n k j : Nat} {kI jI : Int} {t : S52} {c : S54} {b e : Int} (h : Lent p w base ok v l k j t c b e) (hok : ∀ k, ok k → base ≤ k) (hb0 : d 0 < base) (hb1 : d 1 < base) {x0 x1 x2 x3 x4 x5 : List AV} {xs : List (List AV)} (hr : Zak (ZbH r p t n kI jI) (Zb6 d p) 6 w d' (x0 :: x1 :: x2 :: x3 :: x4 :: x5 :: xs) w')
 (a' : Int) (c' : S54) (b' e' : Int) (e2 : AV.vs (ZbH r p t n kI jI) x2 = p.th t a') (e3 : AV.vs (ZbH r p t n kI jI) x3 = clV c') (e4 : AV.vs (ZbH r p t n kI jI) x4 = [.int .i64 b']) (e5 : AV.vs (ZbH r p t n kI jI) x5 = [.int .i64 e']) : Kd.S k52 52 w' base ok v (l.set k ⟨t.f0.set j c', a', t.f2.set j b', t.f3.set j e'⟩) := by
 obtain ⟨y2, q2, z2⟩ := hr.box 2 x2 rfl
 obtain ⟨y3, q3, z3⟩ := hr.box 3 x3 rfl
 obtain ⟨y4, q4, z4⟩ := hr.box 4 x4 rfl
 obtain ⟨y5, q5, z5⟩ := hr.box 5 x5 rfl
 rw [hr.old 2 (by omega), e2, q2 rfl] at z2
 rw [hr.old 3 (by omega), e3, q3 rfl] at z3
 rw [hr.old 4 (by omega), e4, q4 rfl] at z4
 rw [hr.old 5 (by omega), e5, q5 rfl] at z5
 refine h.back w' a' c' b' e' ⟨z2, z3, z4, z5⟩ (fun q h0 h1 h2 h3 h4 hq => hr.upd.block q hq ?_)
 have := hok q h0
 rintro ⟨i, hi, he⟩
 match i, hi, he with
 | 0, _, he => exact absurd (show q = d 0 from he) (by omega)
 | 1, _, he => exact absurd (show q = d 1 from he) (by omega)
 | 2, _, he => exact h1 he
 | 3, _, he => exact h2 he
 | 4, _, he => exact h3 he
 | 5, _, he => exact h4 he
end Go.Proofs.YtgghglocfdcegaaGreat.Xec
namespace Go.Proofs.YtgghglocfdcegaaGreat.Xec
open Go Go.RowKit Go.Proofs.YtgghglocfdcegaaGreat.PFnExactCrewRun Go.Proofs.YtgghglocfdcegaaGreatW.PrintWords
set_option linter.unusedVariables false
set_option linter.unusedSimpArgs false
set_option maxRecDepth 100000
set_option maxHeartbeats 16000000
def crV (wh sz : Int) (A2 : Option Addr) (n2 c2 : Nat) (A3 : Option Addr) (n3 c3 : Nat) (ck : Int) : Value := .agg #[.int .i64 wh, .int .i64 sz, .slice A2 n2 c2, .slice A3 n3 c3, .int .i64 ck]
structure Rs where
 m : List Int
 c : S54
 ok : Bool
abbrev SS := Int → Int → Int → Int → Int → Int → Int → Int → Int → Bool → Rs
def Tv (r : Rs) (v : Value) : Value := .tuple #[.agg #[v], .agg (clV r.c).toArray, .bool r.ok]
def crL (l : List S52) (k j : Nat) (t : S52) (b e ck : Int) (r : Rs) : List S52 := l.set k ⟨t.f0.set j r.c, if r.c.f9 then wrap64 (t.f1 + 1) else t.f1, t.f2.set j b, t.f3.set j (if r.c.f9 then ck else e)⟩
def Zer (w : World) (wh sz ck : Int) (r : Rs) (l : List S52) (e : Ending) (w' : World) : Prop := Below w.heap.size w w' ∧ if r.ok then ∃ v2 v3, e = .returned (.tuple #[.agg #[.int .i64 wh, .int .i64 sz, v2, v3, .int .i64 (wrap64 (ck + 1))], .bool true]) ∧ (Kd.int .i64).R 3 w' w.heap.size (fun _ => True) v2 r.m ∧ Kd.S k52 52 w' w.heap.size (fun q => some q ≠ v2.ownBlock) v3 l else e = .returned (.tuple #[.agg #[.int .i64 0, .int .i64 0, .slice none 0 0, .slice none 0 0, .int .i64 0], .bool false])
abbrev EE := Int → Int → Int → Int → Int → Int → Int → Int → Int → Bool → Int → TC
def endC (f : EE) (c : S54) (P : Int) : S54 := let r := f c.f0 P c.f2 c.f3 c.f4 c.f5 c.f6 c.f7 c.f8 c.f9 4; ⟨r.1, r.2.1, r.2.2.1, r.2.2.2.1, r.2.2.2.2.1, r.2.2.2.2.2.1, r.2.2.2.2.2.2.1, r.2.2.2.2.2.2.2.1, r.2.2.2.2.2.2.2.2.1, r.2.2.2.2.2.2.2.2.2⟩
def CrS (f : EE) (st : SS) (l2 : List Int) (wh : Int) (c : S54) (P : Int) : Rs := if wh = 1 ∧ c.f0 = 1 ∧ c.f1 = -1 then (if P = -1 then ⟨l2, endC f c P, true⟩ else st c.f0 P c.f2 c.f3 c.f4 c.f5 c.f6 c.f7 c.f8 c.f9) else st c.f0 c.f1 c.f2 c.f3 c.f4 c.f5 c.f6 c.f7 c.f8 c.f9
theorem fls {b : Bool} (h : b = true) (h' : b = false) : False := by
 rw [h] at h'
 cases h'
structure Pick (l3 : List S52) (k j : Nat) (t : S52) (c : S54) (b e : Int) : Prop where
 ht : l3[k]? = some t
 hat : t.f1 = (j : Int)
 hc : t.f0[j]? = some c
 hb : t.f2[j]? = some b
 he : t.f3[j]? = some e
abbrev TS := TL
abbrev FS := Int → List Int → Int → Int → Int → Int → Int → Int → Int → Int → Int → Bool → TS
def rsOf (r : TS) : Rs := ⟨r.1, ⟨r.2.1, r.2.2.1, r.2.2.2.1, r.2.2.2.2.1, r.2.2.2.2.2.1, r.2.2.2.2.2.2.1, r.2.2.2.2.2.2.2.1, r.2.2.2.2.2.2.2.2.1, r.2.2.2.2.2.2.2.2.2.1, r.2.2.2.2.2.2.2.2.2.2.1⟩, r.2.2.2.2.2.2.2.2.2.2.2⟩
def stS (fS fR fL : FS) (wh sz : Int) (l : List Int) : SS := fun y0 y1 y2 y3 y4 y5 y6 y7 y8 y9 => rsOf ((if wh = 1 then fS else if wh = 2 then fR else fL) sz l y0 y1 y2 y3 y4 y5 y6 y7 y8 y9)
theorem Zgl {f : EE} {st : SS} {l2 : List Int} {wh : Int} {c : S54} {P : Int} (h1 : wh = 1) (h2 : c.f0 = 1) (h3 : c.f1 = -1) (h4 : P = -1) : CrS f st l2 wh c P = ⟨l2, endC f c P, true⟩ := by
 unfold CrS
 rw [if_pos ⟨h1, h2, h3⟩, if_pos h4]
theorem Zgj {f : EE} {st : SS} {l2 : List Int} {wh : Int} {c : S54} {P : Int} (h1 : wh = 1) (h2 : c.f0 = 1) (h3 : c.f1 = -1) (h4 : ¬ P = -1) : CrS f st l2 wh c P = st c.f0 P c.f2 c.f3 c.f4 c.f5 c.f6 c.f7 c.f8 c.f9 := by
 unfold CrS
 rw [if_pos ⟨h1, h2, h3⟩, if_neg h4]
theorem Zgk {f : EE} {st : SS} {l2 : List Int} {wh : Int} {c : S54} {P : Int} (h : ¬ (wh = 1 ∧ c.f0 = 1 ∧ c.f1 = -1)) : CrS f st l2 wh c P = st c.f0 c.f1 c.f2 c.f3 c.f4 c.f5 c.f6 c.f7 c.f8 c.f9 := by
 unfold CrS
 rw [if_neg h]
def ZbE.F (t : Int) (c : S54) (a b : Int) : Bool := ZP.F a (if c.f9 = true ∨ c.f3 ≠ 0 then 0 else -1) (wrap64 (t - 1)) && ((c.f9 == (b != -1)) && ZP.F b (-1) (wrap64 (t - 1)))
def ZbE.g : List AV → Option AV
 | [.agg [_, _, _, _, x], y, z, u] => (i1 x).bind fun t => (dC y).bind fun c => (i1 z).bind fun a => (i1 u).bind fun b => some (.bool (ZbE.F t c a b))
 | _ => none
theorem ZbE.walk (u0 u1 u2 u3 : AV) (t : Int) (c : S54) (a b : Int) : Walk 63 [(68, ZP.g)] 6 900 [.agg [u0, u1, u2, u3, .int t], .agg [.int c.f0, .int c.f1, .int c.f2, .int c.f3, .int c.f4, .int c.f5, .int c.f6, .int c.f7, .int c.f8, .bool c.f9], .int a, .int b] (.bool (ZbE.F t c a b)) := by
 obtain ⟨e0, e1, e2, e3, e4, e5, e6, e7, e8, e9⟩ := c
 refine w1 fun v O hv hO => ⟨_, _, Tryz.func63, rfl, by kernel_rfl, Nat.le_of_ble_eq_true rfl, ?_⟩
 unfold ZP.g
 generalize hf0 : ZP.F = f0
 (try cbv)
 repeat' (apply And.intro <;> (try intro h) <;> (try cbv))
 all_goals (subst hv hO; subst hf0; (try dsimp only [std] at *); (try simp only [nt_] at *))
 all_goals first
  | rfl
  | (simp_all [ZbE.F]; done)
  | (simp only [ZbE.F]; simp_all; done)
theorem ZbE.fn : Fn 63 ZbE.g := by
 refine ⟨⟨_, Tryz.func63, rfl, rfl⟩, fun R l v hg w => ?_⟩
 unfold ZbE.g at hg
 split at hg
 ·rename_i u0 u1 u2 u3 x y z u
  obtain ⟨t, e1, hg⟩ := Option.bind_eq_some_iff.1 hg
  obtain ⟨c, e2, hg⟩ := Option.bind_eq_some_iff.1 hg
  obtain ⟨a, e3, hg⟩ := Option.bind_eq_some_iff.1 hg
  obtain ⟨b, e4, hg⟩ := Option.bind_eq_some_iff.1 hg
  injection hg with hg
  subst hg
  have := (ZbE.walk (.raw (u0.v R)) (.raw (u1.v R)) (.raw (u2.v R)) (.raw (u3.v R)) t c a b).calls (all_cons ZP.fn ZW) w
  simpa only [AV.vs, AV.v, i1_v R e1, dC_v R e2, i1_v R e3, i1_v R e4, clA] using this
 ·cases hg
def Beg (wh : Int) (c : S54) : S54 := let r := ZY.F wh c.f0 c.f1 c.f2 c.f3 c.f4 c.f5 c.f6 c.f7 c.f8 c.f9; ⟨r.1, r.2.1, r.2.2.1, r.2.2.2.1, r.2.2.2.2.1, r.2.2.2.2.2.1, r.2.2.2.2.2.2.1, r.2.2.2.2.2.2.2.1, r.2.2.2.2.2.2.2.2.1, r.2.2.2.2.2.2.2.2.2⟩
def Thr.okp (wh t a : Int) (c : S54) (i b e : Int) : Prop := c.f9 = decide (i < a) ∧ (a < i → eqCl c (Beg wh c) = true) ∧ ZbE.F t c b e = true
instance (wh t a : Int) (c : S54) (i b e : Int) : Decidable (Thr.okp wh t a c i b e) := by unfold Thr.okp; infer_instance
def Thr.F (wh t : Int) (l : List S54) (a : Int) (b e : List Int) : Bool := decide (l.length ≤ 12 ∧ b.length = l.length ∧ e.length = l.length ∧ 0 ≤ a ∧ a ≤ l.length ∧ ∀ i, i < l.length → Thr.okp wh t a (rd_T54 l i) i (rd b i) (rd e i))
theorem ZcK {S : Nat → Prop} {w : World} {a b c : Row} (h0 : ZaV (ZZ [a, b, c]) S w 0) (h1 : ZaV (ZZ [a, b, c]) S w 1) (h2 : ZaV (ZZ [a, b, c]) S w 2) : ∀ i, ZaV (ZZ [a, b, c]) S w i
 | 0 => h0
 | 1 => h1
 | 2 => h2
 | i + 3 => Zax rfl
theorem Zcz.walk (wh : Int) (u1 u2 u3 : AV) (t : Int) (A0 : Option Addr) (c0 : Nat) (l0 : List S54) (a1 : Int) (A2 : Option Addr) (c2 : Nat) (l2 : List Int) (A3 : Option Addr) (c3 : Nat) (l3 : List Int) (w : World) (hC : k54.C w A0 l0.length l0) (hB : (Kd.int .i64).C w A2 l2.length l2) (hE : (Kd.int .i64).C w A3 l3.length l3) :
 Calls Tryz.prog 40 (AV.vs (ZZ [rowC A0 c0 l0, rowI A2 c2 l2, rowI A3 c3 l3]) [.agg [.int wh, u1, u2, u3, .int t], .agg [.sl 0, .int a1, .sl 1, .sl 2]]).toArray w fun e w' => e = .returned (.bool (Thr.F wh t l0 a1 l2 l3)) ∧ Below w.heap.size w w' := by
 have hlen := hC.2.1
 obtain ⟨j, hj⟩ : ∃ j : Nat → Int, ∀ k, j k = ((l0.length + 1 - k : Nat) : Int) := ⟨_, fun _ => rfl⟩
 obtain ⟨I, hI⟩ : ∃ I : Nat → Prop, ∀ k, I k ↔ ∀ m : Nat, m < l0.length + 1 - k → Thr.okp wh t a1 (rd_T54 l0 m) m (rd l2 m) (rd l3 m) := ⟨_, fun _ => Iff.rfl⟩
 obtain ⟨N, hN⟩ : ∃ N, N = l0.length + 1 := ⟨_, rfl⟩
 obtain ⟨ec, hec⟩ : ∃ ec, ec = eqCl := ⟨_, rfl⟩
 refine Zbd (X := mkXE std [(62, ZY.g), (63, ZbE.g)] [] [rowC A0 c0 l0, rowI A2 c2 l2, rowI A3 c3 l3] ec) (d1 := fun _ => 0) Tryz.func40 rfl (by kernel_rfl) hm (Ze4 rfl (all_cons ZY.fn (all_cons ZbE.fn ZW)) Zap (ZcK (ZbB rfl hC) (ZaI rfl hB) (ZaI rfl hE)) hec) _ 7 900 (Nat.le_of_ble_eq_true rfl) _ N (by omega)
  (fun k => [(2, .ptr 0 0), (3, .ptr 1 0), (39, .v (.sl 0)), (40, .v (.int (l0.length : Nat))), (41, .v (.int (j k)))])
  (fun k => [[.int wh, u1, u2, u3, .int t], [.sl 0, .int a1, .sl 1, .sl 2]]) (fun k => rfl) I (fun k => ?_)
 have hV : Thr.F wh t l0 a1 l2 l3 = true ↔ (l0.length ≤ 12 ∧ l2.length = l0.length ∧ l3.length = l0.length ∧ 0 ≤ a1 ∧ a1 ≤ l0.length ∧ ∀ i, i < l0.length → Thr.okp wh t a1 (rd_T54 l0 i) i (rd l2 i) (rd l3 i)) := decide_eq_true_iff
 generalize Thr.F wh t l0 a1 l2 l3 = V at *
 generalize hv : Value.bool V = v
 generalize hO : std = O
 unfold rowC rowI
 generalize rd_T54 l0 = rd0 at *
 generalize rd l2 = rb at *
 generalize rd l3 = re at *
 generalize l0.length = n0 at *
 generalize l2.length = n2 at *
 generalize l3.length = n3 at *
 have z2 : 0 = j N := by rw [hj, hN, Nat.sub_self]; rfl
 have zI : I N := (hI N).2 fun m hm => by omega
 have s1 : k < N → j (k + 1) < (n0 : Int) → 0 < k ∧ 0 ≤ j (k + 1) ∧ wrap64 (j (k + 1) + 1) = j k := by
  intro h1 h2
  rw [hj] at h2
  refine ⟨by omega, by rw [hj]; omega, ?_⟩
  rw [hj, hj]
  unfold wrap64
  omega
 have s2 : k < N → j (k + 1) < (n0 : Int) → V = true → Thr.okp wh t a1 (rd0 (j (k + 1))) (j (k + 1)) (rb (j (k + 1))) (re (j (k + 1))) := by
  intro h1 h2 h3
  rw [hj] at h2 ⊢
  exact (hV.1 h3).2.2.2.2.2 _ (by omega)
 have s3 : k < N → j (k + 1) < (n0 : Int) → I (k + 1) → Thr.okp wh t a1 (rd0 (j (k + 1))) (j (k + 1)) (rb (j (k + 1))) (re (j (k + 1))) → I k := by
  intro h1 h2 h3 h4
  rw [hj] at h2 h4
  refine (hI k).2 fun m hm => ?_
  by_cases he : m = n0 + 1 - (k + 1)
  ·rw [he]; exact h4
  ·exact (hI (k + 1)).1 h3 m (by omega)
 have s4 : k < N → ¬ j (k + 1) < (n0 : Int) → I (k + 1) → n0 ≤ 12 → n2 = n0 → n3 = n0 → 0 ≤ a1 → a1 ≤ n0 → V = true := by
  intro h1 h2 h3 h4 h5 h6 h7 h8
  rw [hj] at h2
  exact hV.2 ⟨h4, h5, h6, h7, h8, fun i hi => (hI (k + 1)).1 h3 i (by omega)⟩
 have s5 : V = true → n0 ≤ 12 ∧ n2 = n0 ∧ n3 = n0 ∧ 0 ≤ a1 ∧ a1 ≤ n0 := fun h => ⟨(hV.1 h).1, (hV.1 h).2.1, (hV.1 h).2.2.1, (hV.1 h).2.2.2.1, (hV.1 h).2.2.2.2.1⟩
 clear hV hj hI hC hB hE
 unfold Thr.okp Beg at s2 s3
 unfold ZY.g ZbE.g
 generalize hfB : ZY.F = fB at *
 generalize hfT : ZbE.F = fT at *
 (try cbv)
 repeat' (apply And.intro <;> (try intros) <;> (try cbv))
 all_goals (subst hv; subst hO; (try dsimp only [std] at *); (try simp only [decide_eq_true_eq, decide_eq_false_iff_not, beq_iff_eq, beq_eq_false_iff_ne, bne_iff_ne, bne_eq_false_iff_eq, ne_eq, Int.ofNat_eq_natCast] at *))
 all_goals (try first | rfl | exact z2 | exact zI)
 all_goals (try subst hec)
 all_goals first
  | exact (s1 (by assumption) (by assumption)).1
  | (rw [(s1 (by assumption) (by assumption)).2.2]; done)
  | (have q := s1 (by assumption) (by assumption); simp only [Bool.and_eq_true, decide_eq_true_eq]; constructor <;> omega)
  | (refine congrArg Value.bool (s4 (by assumption) (by assumption) (by assumption) ?_ ?_ ?_ ?_ (Int.not_lt.1 (by assumption))).symm <;> omega)
  | (refine congrArg Value.bool (Bool.eq_false_iff.2 fun hh => ?_).symm; have q := s5 hh; first | omega | exact absurd q.2.2.2.2 (Int.not_le.2 (by assumption)))
  | (refine congrArg Value.bool (Bool.eq_false_iff.2 fun hh => ?_).symm
     have q := s2 (by assumption) (by assumption) hh
     first
      | exact absurd q.1 (by assumption)
      | (have q2 := q.2.1 (by assumption)
         have f : (!eqCl (rd0 (j (k + 1))) _) = true := (by assumption)
         rw [q2] at f
         cases f)
      | (have f : (!fT t (rd0 (j (k + 1))) _ _) = true := (by assumption)
         rw [q.2.2] at f
         cases f))
  | skip
 all_goals refine s3 (by assumption) (by assumption) (by assumption) ⟨by assumption, fun hlt => ?_, ?_⟩
 ·have f : (!eqCl (rd0 (j (k + 1))) _) = false := (by assumption)
  revert f
  generalize eqCl (rd0 (j (k + 1))) _ = b
  cases b <;> simp
 ·have f : (!fT t (rd0 (j (k + 1))) _ _) = false := (by assumption)
  revert f
  generalize fT t (rd0 (j (k + 1))) _ _ = b
  cases b <;> simp
 ·exact absurd hlt (by assumption)
 ·have f : (!fT t (rd0 (j (k + 1))) _ _) = false := (by assumption)
  revert f
  generalize fT t (rd0 (j (k + 1))) _ _ = b
  cases b <;> simp
end Go.Proofs.YtgghglocfdcegaaGreat.Xec
