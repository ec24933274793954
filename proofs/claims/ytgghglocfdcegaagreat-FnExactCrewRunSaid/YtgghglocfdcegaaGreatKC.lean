/- Part C of the proof of FnExactCrewStep and FnExactCrewRun (wip/xec, pack.py). No condition. -/
import Derived.Test.YtgghglocfdcegaaGreatProg
import Derived.Below
import Derived.Deep.Draws
import Derived.Deep.AppendLies
import Derived.Maps.AppendAt
import Derived.OwnWalk
import Derived.Laws.BytesArg
import Derived.Laws.MakeOwn
import Derived.Laws.OwnMore
import Derived.Deep.OwnRows
import Derived.Tactics
import Derived.Lib.ConvBytes
import Derived.Laws.Slices
import Derived.WalkKit
import Derived.KernelRfl
import Derived.RowKit3
import Derived.Deep.LoopGhost
import Derived.Deep.QuietTactic
import Derived.BigQuiet
import Derived.WideLaws
import Derived.Deep.DeepCutAuto
import Derived.Deep.CutBlock
import Derived.Deep.RegionHeld3
import Derived.Laws.Rows
import Derived.Lib.AppendStr
import Derived.ArgAppend
import Derived.Laws.IdiomCopy
import Derived.OrdersHeld
import Derived.Laws.BitsLemmas
import Derived.RowKit
import Derived.Test.YtgghglocfdcegaaGreatVCrew
import Derived.Test.YtgghglocfdcegaaGreatKB
namespace Go.Proofs.YtgghglocfdcegaaGreat.PFnExactCrewRun
open Go.RowKit Go.Proofs.YtgghglocfdcegaaGreatW.PrintWords Go.Proofs.YtgghglocfdcegaaGreatW.PrintLast Go.Proofs.YtgghglocfdcegaaGreatW.PrintMore
attribute [local go_sem] max2_int min2_int max_two min_two max_three min_three max_four min_four
set_option linter.unusedVariables false
set_option linter.unusedSimpArgs false
def errW : Option Int → Value
 | none => .nilIface
 | some c => .iface 0 (.int .i64 c)
theorem errW_none : errW none = .nilIface := rfl
theorem errW_some (c : Int) : errW (some c) = .iface 0 (.int .i64 c) := rfl
theorem info3 : (Tryz.prog.info? 3).map (fun i => (i.zero, i.size, i.bytes)) = some (some (.int .i64 0), 1, 8) := by kernel_rfl
theorem info52 : (Tryz.prog.info? 52).map (fun i => (i.zero, i.size, i.bytes)) = some (some (.agg #[(.slice none 0 0), (.int .i64 0), (.slice none 0 0), (.slice none 0 0)]), 4, 80) := by kernel_rfl
theorem info54 : (Tryz.prog.info? 54).map (fun i => (i.zero, i.size, i.bytes)) = some (some (.agg #[(.int .i64 0), (.int .i64 0), (.int .i64 0), (.int .i64 0), (.int .i64 0), (.int .i64 0), (.int .i64 0), (.int .i64 0), (.int .i64 0), (.bool false)]), 10, 80) := by kernel_rfl
structure S114 where
 f0 : Int
 f1 : Int
 f2 : Int
 f3 : Int
 f4 : Int
 f5 : Int
 f6 : Int
 f7 : Int
 f8 : Int
 f9 : Bool
def z114 : S114 := ⟨(0 : Int), (0 : Int), (0 : Int), (0 : Int), (0 : Int), (0 : Int), (0 : Int), (0 : Int), (0 : Int), false⟩
def k114 : Kd S114 := Kd.iso (Kd.pair (Kd.int .i64) (Kd.pair (Kd.int .i64) (Kd.pair (Kd.int .i64) (Kd.pair (Kd.int .i64) (Kd.pair (Kd.int .i64) (Kd.pair (Kd.int .i64) (Kd.pair (Kd.int .i64) (Kd.pair (Kd.int .i64) (Kd.pair (Kd.int .i64) Kd.bool))))))))) (fun x : S114 => (x.f0, x.f1, x.f2, x.f3, x.f4, x.f5, x.f6, x.f7, x.f8, x.f9))
theorem k114_open {w : World} {x : S114} {cs : List Value} (h : k114.K w x cs) : cs = [.int .i64 x.f0, .int .i64 x.f1, .int .i64 x.f2, .int .i64 x.f3, .int .i64 x.f4, .int .i64 x.f5, .int .i64 x.f6, .int .i64 x.f7, .int .i64 x.f8, .bool x.f9] := by
 obtain ⟨_, _, rfl, rfl, ⟨_, _, rfl, rfl, ⟨_, _, rfl, rfl, ⟨_, _, rfl, rfl, ⟨_, _, rfl, rfl, ⟨_, _, rfl, rfl, ⟨_, _, rfl, rfl, ⟨_, _, rfl, rfl, ⟨_, _, rfl, rfl, rfl⟩⟩⟩⟩⟩⟩⟩⟩⟩ := h
 exact rfl
theorem k114_openM {w : World} {base : Nat} {ok : Nat → Prop} {x : S114} {cs : List Value} (h : k114.M w base ok x cs) : cs = [.int .i64 x.f0, .int .i64 x.f1, .int .i64 x.f2, .int .i64 x.f3, .int .i64 x.f4, .int .i64 x.f5, .int .i64 x.f6, .int .i64 x.f7, .int .i64 x.f8, .bool x.f9] := by
 obtain ⟨_, _, rfl, rfl, ⟨_, _, rfl, rfl, ⟨_, _, rfl, rfl, ⟨_, _, rfl, rfl, ⟨_, _, rfl, rfl, ⟨_, _, rfl, rfl, ⟨_, _, rfl, rfl, ⟨_, _, rfl, rfl, ⟨_, _, rfl, rfl, rfl⟩⟩⟩⟩⟩⟩⟩⟩⟩ := h
 exact rfl
theorem k114_mk (w : World) (x : S114)  : k114.K w x [.int .i64 x.f0, .int .i64 x.f1, .int .i64 x.f2, .int .i64 x.f3, .int .i64 x.f4, .int .i64 x.f5, .int .i64 x.f6, .int .i64 x.f7, .int .i64 x.f8, .bool x.f9] := ⟨[.int .i64 x.f0], [.int .i64 x.f1, .int .i64 x.f2, .int .i64 x.f3, .int .i64 x.f4, .int .i64 x.f5, .int .i64 x.f6, .int .i64 x.f7, .int .i64 x.f8, .bool x.f9], rfl, rfl, ⟨[.int .i64 x.f1], [.int .i64 x.f2, .int .i64 x.f3, .int .i64 x.f4, .int .i64 x.f5, .int .i64 x.f6, .int .i64 x.f7, .int .i64 x.f8, .bool x.f9], rfl, rfl, ⟨[.int .i64 x.f2], [.int .i64 x.f3, .int .i64 x.f4, .int .i64 x.f5, .int .i64 x.f6, .int .i64 x.f7, .int .i64 x.f8, .bool x.f9], rfl, rfl, ⟨[.int .i64 x.f3], [.int .i64 x.f4, .int .i64 x.f5, .int .i64 x.f6, .int .i64 x.f7, .int .i64 x.f8, .bool x.f9], rfl, rfl, ⟨[.int .i64 x.f4], [.int .i64 x.f5, .int .i64 x.f6, .int .i64 x.f7, .int .i64 x.f8, .bool x.f9], rfl, rfl, ⟨[.int .i64 x.f5], [.int .i64 x.f6, .int .i64 x.f7, .int .i64 x.f8, .bool x.f9], rfl, rfl, ⟨[.int .i64 x.f6], [.int .i64 x.f7, .int .i64 x.f8, .bool x.f9], rfl, rfl, ⟨[.int .i64 x.f7], [.int .i64 x.f8, .bool x.f9], rfl, rfl, ⟨[.int .i64 x.f8], [.bool x.f9], rfl, rfl, rfl⟩⟩⟩⟩⟩⟩⟩⟩⟩
theorem k114_mkM (w : World) (base : Nat) (ok : Nat → Prop) (x : S114)  : k114.M w base ok x [.int .i64 x.f0, .int .i64 x.f1, .int .i64 x.f2, .int .i64 x.f3, .int .i64 x.f4, .int .i64 x.f5, .int .i64 x.f6, .int .i64 x.f7, .int .i64 x.f8, .bool x.f9] := ⟨[.int .i64 x.f0], [.int .i64 x.f1, .int .i64 x.f2, .int .i64 x.f3, .int .i64 x.f4, .int .i64 x.f5, .int .i64 x.f6, .int .i64 x.f7, .int .i64 x.f8, .bool x.f9], rfl, rfl, ⟨[.int .i64 x.f1], [.int .i64 x.f2, .int .i64 x.f3, .int .i64 x.f4, .int .i64 x.f5, .int .i64 x.f6, .int .i64 x.f7, .int .i64 x.f8, .bool x.f9], rfl, rfl, ⟨[.int .i64 x.f2], [.int .i64 x.f3, .int .i64 x.f4, .int .i64 x.f5, .int .i64 x.f6, .int .i64 x.f7, .int .i64 x.f8, .bool x.f9], rfl, rfl, ⟨[.int .i64 x.f3], [.int .i64 x.f4, .int .i64 x.f5, .int .i64 x.f6, .int .i64 x.f7, .int .i64 x.f8, .bool x.f9], rfl, rfl, ⟨[.int .i64 x.f4], [.int .i64 x.f5, .int .i64 x.f6, .int .i64 x.f7, .int .i64 x.f8, .bool x.f9], rfl, rfl, ⟨[.int .i64 x.f5], [.int .i64 x.f6, .int .i64 x.f7, .int .i64 x.f8, .bool x.f9], rfl, rfl, ⟨[.int .i64 x.f6], [.int .i64 x.f7, .int .i64 x.f8, .bool x.f9], rfl, rfl, ⟨[.int .i64 x.f7], [.int .i64 x.f8, .bool x.f9], rfl, rfl, ⟨[.int .i64 x.f8], [.bool x.f9], rfl, rfl, rfl⟩⟩⟩⟩⟩⟩⟩⟩⟩
def rd_T114 (xs : List S114) (i : Int) : S114 := xs.getD i.toNat z114
theorem at_T114 {w : World} {A : Option Addr} {n : Nat} {xs : List S114} (h : Kd.C k114 w A n xs) (i : Int) (h0 : 0 ≤ i) (h1 : i < n) : ∃ ad , A = some ad ∧ w.cell? (ad.add (i.toNat * 10)) = some (.int .i64 (rd_T114 xs i).f0) ∧ w.cell? ⟨(ad.add (i.toNat * 10)).block, (ad.add (i.toNat * 10)).off + 1, none⟩ = some (.int .i64 (rd_T114 xs i).f1) ∧ w.cell? ⟨(ad.add (i.toNat * 10)).block, (ad.add (i.toNat * 10)).off + 2, none⟩ = some (.int .i64 (rd_T114 xs i).f2) ∧ w.cell? ⟨(ad.add (i.toNat * 10)).block, (ad.add (i.toNat * 10)).off + 3, none⟩ = some (.int .i64 (rd_T114 xs i).f3) ∧ w.cell? ⟨(ad.add (i.toNat * 10)).block, (ad.add (i.toNat * 10)).off + 4, none⟩ = some (.int .i64 (rd_T114 xs i).f4) ∧ w.cell? ⟨(ad.add (i.toNat * 10)).block, (ad.add (i.toNat * 10)).off + 5, none⟩ = some (.int .i64 (rd_T114 xs i).f5) ∧ w.cell? ⟨(ad.add (i.toNat * 10)).block, (ad.add (i.toNat * 10)).off + 6, none⟩ = some (.int .i64 (rd_T114 xs i).f6) ∧ w.cell? ⟨(ad.add (i.toNat * 10)).block, (ad.add (i.toNat * 10)).off + 7, none⟩ = some (.int .i64 (rd_T114 xs i).f7) ∧ w.cell? ⟨(ad.add (i.toNat * 10)).block, (ad.add (i.toNat * 10)).off + 8, none⟩ = some (.int .i64 (rd_T114 xs i).f8) ∧ w.cell? ⟨(ad.add (i.toNat * 10)).block, (ad.add (i.toNat * 10)).off + 9, none⟩ = some (.bool (rd_T114 xs i).f9) := by
 obtain ⟨ad, c, e, _, hK, hc0⟩ := Kd.C_get h z114 i h0 h1
 have hc : ∀ j u, c[j]? = some u → w.cell? (ad.add (i.toNat * 10 + j)) = some u := hc0
 obtain rfl := k114_open hK
 exact ⟨ad, e, hc 0 _ rfl, by rw [← add_field _ _ 1 (by omega)]; exact hc 1 _ rfl, by rw [← add_field _ _ 2 (by omega)]; exact hc 2 _ rfl, by rw [← add_field _ _ 3 (by omega)]; exact hc 3 _ rfl, by rw [← add_field _ _ 4 (by omega)]; exact hc 4 _ rfl, by rw [← add_field _ _ 5 (by omega)]; exact hc 5 _ rfl, by rw [← add_field _ _ 6 (by omega)]; exact hc 6 _ rfl, by rw [← add_field _ _ 7 (by omega)]; exact hc 7 _ rfl, by rw [← add_field _ _ 8 (by omega)]; exact hc 8 _ rfl, by rw [← add_field _ _ 9 (by omega)]; exact hc 9 _ rfl⟩
def rd_L3 (xs : List (List S114)) (i : Int) : (List S114) := xs.getD i.toNat ([] : List S114)
theorem at_L3 {w : World} {A : Option Addr} {n : Nat} {xs : List (List S114)} (h : Kd.C (Kd.slice 114 k114) w A n xs) (i : Int) (h0 : 0 ≤ i) (h1 : i < n) : ∃ ad A0 c0, A = some ad ∧ w.cell? (ad.add i.toNat) = some (.slice A0 (rd_L3 xs i).length c0) ∧ (rd_L3 xs i).length ≤ c0 ∧ k114.C w A0 (rd_L3 xs i).length (rd_L3 xs i) := by
 obtain ⟨ad, c, e, _, hK, hc0⟩ := Kd.C_get h ([] : List S114) i h0 h1
 have hc : ∀ j u, c[j]? = some u → w.cell? (ad.add (i.toNat * 1 + j)) = some u := hc0
 obtain ⟨A0, c0, rfl, l0, g0⟩ := hK
 exact ⟨ad, A0, c0, e, by have hq := hc 0 _ rfl; rwa [Nat.mul_one, Nat.add_zero] at hq, l0, g0⟩
def rd_L4 (xs : List (List Int)) (i : Int) : (List Int) := xs.getD i.toNat ([] : List Int)
theorem at_L4 {w : World} {A : Option Addr} {n : Nat} {xs : List (List Int)} (h : Kd.C (Kd.slice 3 (Kd.int .i64)) w A n xs) (i : Int) (h0 : 0 ≤ i) (h1 : i < n) : ∃ ad A0 c0, A = some ad ∧ w.cell? (ad.add i.toNat) = some (.slice A0 (rd_L4 xs i).length c0) ∧ (rd_L4 xs i).length ≤ c0 ∧ (Kd.int .i64).C w A0 (rd_L4 xs i).length (rd_L4 xs i) := by
 obtain ⟨ad, c, e, _, hK, hc0⟩ := Kd.C_get h ([] : List Int) i h0 h1
 have hc : ∀ j u, c[j]? = some u → w.cell? (ad.add (i.toNat * 1 + j)) = some u := hc0
 obtain ⟨A0, c0, rfl, l0, g0⟩ := hK
 exact ⟨ad, A0, c0, e, by have hq := hc 0 _ rfl; rwa [Nat.mul_one, Nat.add_zero] at hq, l0, g0⟩
structure S66 where
 f0 : (List S114)
 f1 : Int
 f2 : (List Int)
 f3 : (List Int)
def z66 : S66 := ⟨([] : List S114), (0 : Int), ([] : List Int), ([] : List Int)⟩
def k66 : Kd S66 := Kd.iso (Kd.pair (Kd.slice 114 k114) (Kd.pair (Kd.int .i64) (Kd.pair (Kd.slice 3 (Kd.int .i64)) (Kd.slice 3 (Kd.int .i64))))) (fun x : S66 => (x.f0, x.f1, x.f2, x.f3))
theorem k66_open {w : World} {x : S66} {cs : List Value} (h : k66.K w x cs) : ∃ A0 c0 A2 c2 A3 c3, cs = [.slice A0 x.f0.length c0, .int .i64 x.f1, .slice A2 x.f2.length c2, .slice A3 x.f3.length c3] ∧ x.f0.length ≤ c0 ∧ k114.C w A0 x.f0.length x.f0 ∧ x.f2.length ≤ c2 ∧ (Kd.int .i64).C w A2 x.f2.length x.f2 ∧ x.f3.length ≤ c3 ∧ (Kd.int .i64).C w A3 x.f3.length x.f3 := by
 obtain ⟨_, _, rfl, ⟨A0, c0, rfl, l0, g0⟩, ⟨_, _, rfl, rfl, ⟨_, _, rfl, ⟨A2, c2, rfl, l2, g2⟩, ⟨A3, c3, rfl, l3, g3⟩⟩⟩⟩ := h
 exact ⟨A0, c0, A2, c2, A3, c3, rfl, l0, g0, l2, g2, l3, g3⟩
theorem k66_openM {w : World} {base : Nat} {ok : Nat → Prop} {x : S66} {cs : List Value} (h : k66.M w base ok x cs) : ∃ v0 v2 v3, cs = [v0, .int .i64 x.f1, v2, v3] ∧ k114.R 114 w base ok v0 x.f0 ∧ (Kd.int .i64).R 3 w base ok v2 x.f2 ∧ (Kd.int .i64).R 3 w base ok v3 x.f3 := by
 obtain ⟨_, _, rfl, ⟨v0, rfl, g0⟩, ⟨_, _, rfl, rfl, ⟨_, _, rfl, ⟨v2, rfl, g2⟩, ⟨v3, rfl, g3⟩⟩⟩⟩ := h
 exact ⟨v0, v2, v3, rfl, g0, g2, g3⟩
theorem k66_mk (w : World) (x : S66) {A0 : Option Addr} {c0 : Nat} (l0 : x.f0.length ≤ c0) (g0 : k114.C w A0 x.f0.length x.f0) {A2 : Option Addr} {c2 : Nat} (l2 : x.f2.length ≤ c2) (g2 : (Kd.int .i64).C w A2 x.f2.length x.f2) {A3 : Option Addr} {c3 : Nat} (l3 : x.f3.length ≤ c3) (g3 : (Kd.int .i64).C w A3 x.f3.length x.f3) : k66.K w x [.slice A0 x.f0.length c0, .int .i64 x.f1, .slice A2 x.f2.length c2, .slice A3 x.f3.length c3] := ⟨[.slice A0 x.f0.length c0], [.int .i64 x.f1, .slice A2 x.f2.length c2, .slice A3 x.f3.length c3], rfl, ⟨A0, c0, rfl, l0, g0⟩, ⟨[.int .i64 x.f1], [.slice A2 x.f2.length c2, .slice A3 x.f3.length c3], rfl, rfl, ⟨[.slice A2 x.f2.length c2], [.slice A3 x.f3.length c3], rfl, ⟨A2, c2, rfl, l2, g2⟩, ⟨A3, c3, rfl, l3, g3⟩⟩⟩⟩
theorem k66_mkM (w : World) (base : Nat) (ok : Nat → Prop) (x : S66) {v0 : Value} (g0 : k114.R 114 w base ok v0 x.f0) {v2 : Value} (g2 : (Kd.int .i64).R 3 w base ok v2 x.f2) {v3 : Value} (g3 : (Kd.int .i64).R 3 w base ok v3 x.f3) : k66.M w base ok x [v0, .int .i64 x.f1, v2, v3] := ⟨[v0], [.int .i64 x.f1, v2, v3], rfl, ⟨v0, rfl, g0⟩, ⟨[.int .i64 x.f1], [v2, v3], rfl, rfl, ⟨[v2], [v3], rfl, ⟨v2, rfl, g2⟩, ⟨v3, rfl, g3⟩⟩⟩⟩
def rd_T66 (xs : List S66) (i : Int) : S66 := xs.getD i.toNat z66
theorem at_T66 {w : World} {A : Option Addr} {n : Nat} {xs : List S66} (h : Kd.C k66 w A n xs) (i : Int) (h0 : 0 ≤ i) (h1 : i < n) : ∃ ad A0 c0 A2 c2 A3 c3, A = some ad ∧ w.cell? (ad.add (i.toNat * 4)) = some (.slice A0 (rd_T66 xs i).f0.length c0) ∧ w.cell? ⟨(ad.add (i.toNat * 4)).block, (ad.add (i.toNat * 4)).off + 1, none⟩ = some (.int .i64 (rd_T66 xs i).f1) ∧ w.cell? ⟨(ad.add (i.toNat * 4)).block, (ad.add (i.toNat * 4)).off + 2, none⟩ = some (.slice A2 (rd_T66 xs i).f2.length c2) ∧ w.cell? ⟨(ad.add (i.toNat * 4)).block, (ad.add (i.toNat * 4)).off + 3, none⟩ = some (.slice A3 (rd_T66 xs i).f3.length c3) ∧ (rd_T66 xs i).f0.length ≤ c0 ∧ k114.C w A0 (rd_T66 xs i).f0.length (rd_T66 xs i).f0 ∧ (rd_T66 xs i).f2.length ≤ c2 ∧ (Kd.int .i64).C w A2 (rd_T66 xs i).f2.length (rd_T66 xs i).f2 ∧ (rd_T66 xs i).f3.length ≤ c3 ∧ (Kd.int .i64).C w A3 (rd_T66 xs i).f3.length (rd_T66 xs i).f3 := by
 obtain ⟨ad, c, e, _, hK, hc0⟩ := Kd.C_get h z66 i h0 h1
 have hc : ∀ j u, c[j]? = some u → w.cell? (ad.add (i.toNat * 4 + j)) = some u := hc0
 obtain ⟨A0, c0, A2, c2, A3, c3, rfl, l0, g0, l2, g2, l3, g3⟩ := k66_open hK
 exact ⟨ad, A0, c0, A2, c2, A3, c3, e, hc 0 _ rfl, by rw [← add_field _ _ 1 (by omega)]; exact hc 1 _ rfl, by rw [← add_field _ _ 2 (by omega)]; exact hc 2 _ rfl, by rw [← add_field _ _ 3 (by omega)]; exact hc 3 _ rfl, l0, g0, l2, g2, l3, g3⟩
structure S54 where
 f0 : Int
 f1 : Int
 f2 : Int
 f3 : Int
 f4 : Int
 f5 : Int
 f6 : Int
 f7 : Int
 f8 : Int
 f9 : Bool
def z54 : S54 := ⟨(0 : Int), (0 : Int), (0 : Int), (0 : Int), (0 : Int), (0 : Int), (0 : Int), (0 : Int), (0 : Int), false⟩
def k54 : Kd S54 := Kd.iso (Kd.pair (Kd.int .i64) (Kd.pair (Kd.int .i64) (Kd.pair (Kd.int .i64) (Kd.pair (Kd.int .i64) (Kd.pair (Kd.int .i64) (Kd.pair (Kd.int .i64) (Kd.pair (Kd.int .i64) (Kd.pair (Kd.int .i64) (Kd.pair (Kd.int .i64) Kd.bool))))))))) (fun x : S54 => (x.f0, x.f1, x.f2, x.f3, x.f4, x.f5, x.f6, x.f7, x.f8, x.f9))
theorem k54_open {w : World} {x : S54} {cs : List Value} (h : k54.K w x cs) : cs = [.int .i64 x.f0, .int .i64 x.f1, .int .i64 x.f2, .int .i64 x.f3, .int .i64 x.f4, .int .i64 x.f5, .int .i64 x.f6, .int .i64 x.f7, .int .i64 x.f8, .bool x.f9] := by
 obtain ⟨_, _, rfl, rfl, ⟨_, _, rfl, rfl, ⟨_, _, rfl, rfl, ⟨_, _, rfl, rfl, ⟨_, _, rfl, rfl, ⟨_, _, rfl, rfl, ⟨_, _, rfl, rfl, ⟨_, _, rfl, rfl, ⟨_, _, rfl, rfl, rfl⟩⟩⟩⟩⟩⟩⟩⟩⟩ := h
 exact rfl
theorem k54_openM {w : World} {base : Nat} {ok : Nat → Prop} {x : S54} {cs : List Value} (h : k54.M w base ok x cs) : cs = [.int .i64 x.f0, .int .i64 x.f1, .int .i64 x.f2, .int .i64 x.f3, .int .i64 x.f4, .int .i64 x.f5, .int .i64 x.f6, .int .i64 x.f7, .int .i64 x.f8, .bool x.f9] := by
 obtain ⟨_, _, rfl, rfl, ⟨_, _, rfl, rfl, ⟨_, _, rfl, rfl, ⟨_, _, rfl, rfl, ⟨_, _, rfl, rfl, ⟨_, _, rfl, rfl, ⟨_, _, rfl, rfl, ⟨_, _, rfl, rfl, ⟨_, _, rfl, rfl, rfl⟩⟩⟩⟩⟩⟩⟩⟩⟩ := h
 exact rfl
theorem k54_mk (w : World) (x : S54)  : k54.K w x [.int .i64 x.f0, .int .i64 x.f1, .int .i64 x.f2, .int .i64 x.f3, .int .i64 x.f4, .int .i64 x.f5, .int .i64 x.f6, .int .i64 x.f7, .int .i64 x.f8, .bool x.f9] := ⟨[.int .i64 x.f0], [.int .i64 x.f1, .int .i64 x.f2, .int .i64 x.f3, .int .i64 x.f4, .int .i64 x.f5, .int .i64 x.f6, .int .i64 x.f7, .int .i64 x.f8, .bool x.f9], rfl, rfl, ⟨[.int .i64 x.f1], [.int .i64 x.f2, .int .i64 x.f3, .int .i64 x.f4, .int .i64 x.f5, .int .i64 x.f6, .int .i64 x.f7, .int .i64 x.f8, .bool x.f9], rfl, rfl, ⟨[.int .i64 x.f2], [.int .i64 x.f3, .int .i64 x.f4, .int .i64 x.f5, .int .i64 x.f6, .int .i64 x.f7, .int .i64 x.f8, .bool x.f9], rfl, rfl, ⟨[.int .i64 x.f3], [.int .i64 x.f4, .int .i64 x.f5, .int .i64 x.f6, .int .i64 x.f7, .int .i64 x.f8, .bool x.f9], rfl, rfl, ⟨[.int .i64 x.f4], [.int .i64 x.f5, .int .i64 x.f6, .int .i64 x.f7, .int .i64 x.f8, .bool x.f9], rfl, rfl, ⟨[.int .i64 x.f5], [.int .i64 x.f6, .int .i64 x.f7, .int .i64 x.f8, .bool x.f9], rfl, rfl, ⟨[.int .i64 x.f6], [.int .i64 x.f7, .int .i64 x.f8, .bool x.f9], rfl, rfl, ⟨[.int .i64 x.f7], [.int .i64 x.f8, .bool x.f9], rfl, rfl, ⟨[.int .i64 x.f8], [.bool x.f9], rfl, rfl, rfl⟩⟩⟩⟩⟩⟩⟩⟩⟩
theorem k54_mkM (w : World) (base : Nat) (ok : Nat → Prop) (x : S54)  : k54.M w base ok x [.int .i64 x.f0, .int .i64 x.f1, .int .i64 x.f2, .int .i64 x.f3, .int .i64 x.f4, .int .i64 x.f5, .int .i64 x.f6, .int .i64 x.f7, .int .i64 x.f8, .bool x.f9] := ⟨[.int .i64 x.f0], [.int .i64 x.f1, .int .i64 x.f2, .int .i64 x.f3, .int .i64 x.f4, .int .i64 x.f5, .int .i64 x.f6, .int .i64 x.f7, .int .i64 x.f8, .bool x.f9], rfl, rfl, ⟨[.int .i64 x.f1], [.int .i64 x.f2, .int .i64 x.f3, .int .i64 x.f4, .int .i64 x.f5, .int .i64 x.f6, .int .i64 x.f7, .int .i64 x.f8, .bool x.f9], rfl, rfl, ⟨[.int .i64 x.f2], [.int .i64 x.f3, .int .i64 x.f4, .int .i64 x.f5, .int .i64 x.f6, .int .i64 x.f7, .int .i64 x.f8, .bool x.f9], rfl, rfl, ⟨[.int .i64 x.f3], [.int .i64 x.f4, .int .i64 x.f5, .int .i64 x.f6, .int .i64 x.f7, .int .i64 x.f8, .bool x.f9], rfl, rfl, ⟨[.int .i64 x.f4], [.int .i64 x.f5, .int .i64 x.f6, .int .i64 x.f7, .int .i64 x.f8, .bool x.f9], rfl, rfl, ⟨[.int .i64 x.f5], [.int .i64 x.f6, .int .i64 x.f7, .int .i64 x.f8, .bool x.f9], rfl, rfl, ⟨[.int .i64 x.f6], [.int .i64 x.f7, .int .i64 x.f8, .bool x.f9], rfl, rfl, ⟨[.int .i64 x.f7], [.int .i64 x.f8, .bool x.f9], rfl, rfl, ⟨[.int .i64 x.f8], [.bool x.f9], rfl, rfl, rfl⟩⟩⟩⟩⟩⟩⟩⟩⟩
def rd_T54 (xs : List S54) (i : Int) : S54 := xs.getD i.toNat z54
theorem at_T54 {w : World} {A : Option Addr} {n : Nat} {xs : List S54} (h : Kd.C k54 w A n xs) (i : Int) (h0 : 0 ≤ i) (h1 : i < n) : ∃ ad , A = some ad ∧ w.cell? (ad.add (i.toNat * 10)) = some (.int .i64 (rd_T54 xs i).f0) ∧ w.cell? ⟨(ad.add (i.toNat * 10)).block, (ad.add (i.toNat * 10)).off + 1, none⟩ = some (.int .i64 (rd_T54 xs i).f1) ∧ w.cell? ⟨(ad.add (i.toNat * 10)).block, (ad.add (i.toNat * 10)).off + 2, none⟩ = some (.int .i64 (rd_T54 xs i).f2) ∧ w.cell? ⟨(ad.add (i.toNat * 10)).block, (ad.add (i.toNat * 10)).off + 3, none⟩ = some (.int .i64 (rd_T54 xs i).f3) ∧ w.cell? ⟨(ad.add (i.toNat * 10)).block, (ad.add (i.toNat * 10)).off + 4, none⟩ = some (.int .i64 (rd_T54 xs i).f4) ∧ w.cell? ⟨(ad.add (i.toNat * 10)).block, (ad.add (i.toNat * 10)).off + 5, none⟩ = some (.int .i64 (rd_T54 xs i).f5) ∧ w.cell? ⟨(ad.add (i.toNat * 10)).block, (ad.add (i.toNat * 10)).off + 6, none⟩ = some (.int .i64 (rd_T54 xs i).f6) ∧ w.cell? ⟨(ad.add (i.toNat * 10)).block, (ad.add (i.toNat * 10)).off + 7, none⟩ = some (.int .i64 (rd_T54 xs i).f7) ∧ w.cell? ⟨(ad.add (i.toNat * 10)).block, (ad.add (i.toNat * 10)).off + 8, none⟩ = some (.int .i64 (rd_T54 xs i).f8) ∧ w.cell? ⟨(ad.add (i.toNat * 10)).block, (ad.add (i.toNat * 10)).off + 9, none⟩ = some (.bool (rd_T54 xs i).f9) := by
 obtain ⟨ad, c, e, _, hK, hc0⟩ := Kd.C_get h z54 i h0 h1
 have hc : ∀ j u, c[j]? = some u → w.cell? (ad.add (i.toNat * 10 + j)) = some u := hc0
 obtain rfl := k54_open hK
 exact ⟨ad, e, hc 0 _ rfl, by rw [← add_field _ _ 1 (by omega)]; exact hc 1 _ rfl, by rw [← add_field _ _ 2 (by omega)]; exact hc 2 _ rfl, by rw [← add_field _ _ 3 (by omega)]; exact hc 3 _ rfl, by rw [← add_field _ _ 4 (by omega)]; exact hc 4 _ rfl, by rw [← add_field _ _ 5 (by omega)]; exact hc 5 _ rfl, by rw [← add_field _ _ 6 (by omega)]; exact hc 6 _ rfl, by rw [← add_field _ _ 7 (by omega)]; exact hc 7 _ rfl, by rw [← add_field _ _ 8 (by omega)]; exact hc 8 _ rfl, by rw [← add_field _ _ 9 (by omega)]; exact hc 9 _ rfl⟩
def rd_L7 (xs : List (List S54)) (i : Int) : (List S54) := xs.getD i.toNat ([] : List S54)
theorem at_L7 {w : World} {A : Option Addr} {n : Nat} {xs : List (List S54)} (h : Kd.C (Kd.slice 54 k54) w A n xs) (i : Int) (h0 : 0 ≤ i) (h1 : i < n) : ∃ ad A0 c0, A = some ad ∧ w.cell? (ad.add i.toNat) = some (.slice A0 (rd_L7 xs i).length c0) ∧ (rd_L7 xs i).length ≤ c0 ∧ k54.C w A0 (rd_L7 xs i).length (rd_L7 xs i) := by
 obtain ⟨ad, c, e, _, hK, hc0⟩ := Kd.C_get h ([] : List S54) i h0 h1
 have hc : ∀ j u, c[j]? = some u → w.cell? (ad.add (i.toNat * 1 + j)) = some u := hc0
 obtain ⟨A0, c0, rfl, l0, g0⟩ := hK
 exact ⟨ad, A0, c0, e, by have hq := hc 0 _ rfl; rwa [Nat.mul_one, Nat.add_zero] at hq, l0, g0⟩
structure S52 where
 f0 : (List S54)
 f1 : Int
 f2 : (List Int)
 f3 : (List Int)
def z52 : S52 := ⟨([] : List S54), (0 : Int), ([] : List Int), ([] : List Int)⟩
def k52b : Kd S52 := Kd.iso (Kd.pair (Kd.slice 54 k54) (Kd.pair (Kd.int .i64) (Kd.pair (Kd.slice 3 (Kd.int .i64)) (Kd.slice 3 (Kd.int .i64))))) (fun x : S52 => (x.f0, x.f1, x.f2, x.f3))
def withAp {α : Type} (d : Kd α) (p : List Value → Prop) : Kd α where
 sz := d.sz
 E := d.E
 K := d.K
 M := fun w base ok x cs => d.M w base ok x cs ∧ p cs
 K_len := d.K_len
 K_one := d.K_one
 K_below := d.K_below
 K_of_M := fun h => d.K_of_M h.1
 M_mono := fun hok h => ⟨d.M_mono hok h.1, h.2⟩
 M_bound := fun h => ⟨d.M_bound h.1, h.2⟩
 M_move := fun hm h => ⟨d.M_move hm h.1, h.2⟩
 M_lower := fun hb h => ⟨d.M_lower hb h.1, h.2⟩
def ap23 (cs : List Value) : Prop := ∀ v2 v3, cs[2]? = some v2 → cs[3]? = some v3 → ∀ k, v2.ownBlock = some k → v3.ownBlock ≠ some k
def k52 : Kd S52 := withAp k52b ap23
theorem k52_open {w : World} {x : S52} {cs : List Value} (h : k52.K w x cs) : ∃ A0 c0 A2 c2 A3 c3, cs = [.slice A0 x.f0.length c0, .int .i64 x.f1, .slice A2 x.f2.length c2, .slice A3 x.f3.length c3] ∧ x.f0.length ≤ c0 ∧ k54.C w A0 x.f0.length x.f0 ∧ x.f2.length ≤ c2 ∧ (Kd.int .i64).C w A2 x.f2.length x.f2 ∧ x.f3.length ≤ c3 ∧ (Kd.int .i64).C w A3 x.f3.length x.f3 := by
 obtain ⟨_, _, rfl, ⟨A0, c0, rfl, l0, g0⟩, ⟨_, _, rfl, rfl, ⟨_, _, rfl, ⟨A2, c2, rfl, l2, g2⟩, ⟨A3, c3, rfl, l3, g3⟩⟩⟩⟩ := h
 exact ⟨A0, c0, A2, c2, A3, c3, rfl, l0, g0, l2, g2, l3, g3⟩
theorem k52_openM {w : World} {base : Nat} {ok : Nat → Prop} {x : S52} {cs : List Value} (h : k52.M w base ok x cs) : ∃ v0 v2 v3, cs = [v0, .int .i64 x.f1, v2, v3] ∧ k54.R 54 w base ok v0 x.f0 ∧ (Kd.int .i64).R 3 w base ok v2 x.f2 ∧ (Kd.int .i64).R 3 w base ok v3 x.f3 := by
 obtain ⟨_, _, rfl, ⟨v0, rfl, g0⟩, ⟨_, _, rfl, rfl, ⟨_, _, rfl, ⟨v2, rfl, g2⟩, ⟨v3, rfl, g3⟩⟩⟩⟩ := h.1
 exact ⟨v0, v2, v3, rfl, g0, g2, g3⟩
theorem k52_openA {w : World} {base : Nat} {ok : Nat → Prop} {x : S52} {cs : List Value} (h : k52.M w base ok x cs) : ∃ v0 v2 v3, cs = [v0, .int .i64 x.f1, v2, v3] ∧ k54.R 54 w base ok v0 x.f0 ∧ (Kd.int .i64).R 3 w base ok v2 x.f2 ∧ (Kd.int .i64).R 3 w base ok v3 x.f3 ∧ ∀ k, v2.ownBlock = some k → v3.ownBlock ≠ some k := by
 obtain ⟨v0, v2, v3, rfl, g0, g2, g3⟩ := k52_openM h
 exact ⟨v0, v2, v3, rfl, g0, g2, g3, h.2 v2 v3 rfl rfl⟩
theorem k52_mk (w : World) (x : S52) {A0 : Option Addr} {c0 : Nat} (l0 : x.f0.length ≤ c0) (g0 : k54.C w A0 x.f0.length x.f0) {A2 : Option Addr} {c2 : Nat} (l2 : x.f2.length ≤ c2) (g2 : (Kd.int .i64).C w A2 x.f2.length x.f2) {A3 : Option Addr} {c3 : Nat} (l3 : x.f3.length ≤ c3) (g3 : (Kd.int .i64).C w A3 x.f3.length x.f3) : k52.K w x [.slice A0 x.f0.length c0, .int .i64 x.f1, .slice A2 x.f2.length c2, .slice A3 x.f3.length c3] := ⟨[.slice A0 x.f0.length c0], [.int .i64 x.f1, .slice A2 x.f2.length c2, .slice A3 x.f3.length c3], rfl, ⟨A0, c0, rfl, l0, g0⟩, ⟨[.int .i64 x.f1], [.slice A2 x.f2.length c2, .slice A3 x.f3.length c3], rfl, rfl, ⟨[.slice A2 x.f2.length c2], [.slice A3 x.f3.length c3], rfl, ⟨A2, c2, rfl, l2, g2⟩, ⟨A3, c3, rfl, l3, g3⟩⟩⟩⟩
theorem k52_mkM (w : World) (base : Nat) (ok : Nat → Prop) (x : S52) {v0 : Value} (g0 : k54.R 54 w base ok v0 x.f0) {v2 : Value} (g2 : (Kd.int .i64).R 3 w base ok v2 x.f2) {v3 : Value} (g3 : (Kd.int .i64).R 3 w base ok v3 x.f3) (hap : ∀ k, v2.ownBlock = some k → v3.ownBlock ≠ some k) : k52.M w base ok x [v0, .int .i64 x.f1, v2, v3] := ⟨⟨[v0], [.int .i64 x.f1, v2, v3], rfl, ⟨v0, rfl, g0⟩, ⟨[.int .i64 x.f1], [v2, v3], rfl, rfl, ⟨[v2], [v3], rfl, ⟨v2, rfl, g2⟩, ⟨v3, rfl, g3⟩⟩⟩⟩, fun _ _ e2 e3 => by cases e2; cases e3; exact hap⟩
def rd_T52 (xs : List S52) (i : Int) : S52 := xs.getD i.toNat z52
theorem at_T52 {w : World} {A : Option Addr} {n : Nat} {xs : List S52} (h : Kd.C k52 w A n xs) (i : Int) (h0 : 0 ≤ i) (h1 : i < n) : ∃ ad A0 c0 A2 c2 A3 c3, A = some ad ∧ w.cell? (ad.add (i.toNat * 4)) = some (.slice A0 (rd_T52 xs i).f0.length c0) ∧ w.cell? ⟨(ad.add (i.toNat * 4)).block, (ad.add (i.toNat * 4)).off + 1, none⟩ = some (.int .i64 (rd_T52 xs i).f1) ∧ w.cell? ⟨(ad.add (i.toNat * 4)).block, (ad.add (i.toNat * 4)).off + 2, none⟩ = some (.slice A2 (rd_T52 xs i).f2.length c2) ∧ w.cell? ⟨(ad.add (i.toNat * 4)).block, (ad.add (i.toNat * 4)).off + 3, none⟩ = some (.slice A3 (rd_T52 xs i).f3.length c3) ∧ (rd_T52 xs i).f0.length ≤ c0 ∧ k54.C w A0 (rd_T52 xs i).f0.length (rd_T52 xs i).f0 ∧ (rd_T52 xs i).f2.length ≤ c2 ∧ (Kd.int .i64).C w A2 (rd_T52 xs i).f2.length (rd_T52 xs i).f2 ∧ (rd_T52 xs i).f3.length ≤ c3 ∧ (Kd.int .i64).C w A3 (rd_T52 xs i).f3.length (rd_T52 xs i).f3 := by
 obtain ⟨ad, c, e, _, hK, hc0⟩ := Kd.C_get h z52 i h0 h1
 have hc : ∀ j u, c[j]? = some u → w.cell? (ad.add (i.toNat * 4 + j)) = some u := hc0
 obtain ⟨A0, c0, A2, c2, A3, c3, rfl, l0, g0, l2, g2, l3, g3⟩ := k52_open hK
 exact ⟨ad, A0, c0, A2, c2, A3, c3, e, hc 0 _ rfl, by rw [← add_field _ _ 1 (by omega)]; exact hc 1 _ rfl, by rw [← add_field _ _ 2 (by omega)]; exact hc 2 _ rfl, by rw [← add_field _ _ 3 (by omega)]; exact hc 3 _ rfl, l0, g0, l2, g2, l3, g3⟩
end Go.Proofs.YtgghglocfdcegaaGreat.PFnExactCrewRun
namespace Go.Proofs.YtgghglocfdcegaaGreat.Xec
open Go Go.RowKit Go.Proofs.YtgghglocfdcegaaGreat.PFnExactCrewRun
set_option linter.unusedVariables false
set_option linter.unusedSimpArgs false
def R0 : Nat → Row := fun _ => { a := none, g := 0, p := 0, n := 0, c := 0, sz := 0, get := fun _ => [] }
def clA (c : S54) : AV := .agg [.int c.f0, .int c.f1, .int c.f2, .int c.f3, .int c.f4, .int c.f5, .int c.f6, .int c.f7, .int c.f8, .bool c.f9]
def i1 : AV → Option Int
 | .lit n => some n
 | .int n => some n
 | _ => none
def b1 : AV → Option Bool
 | .bl b => some b
 | .bool b => some b
 | _ => none
def dC : AV → Option S54
 | .agg [a, b, c, d, e, f, g, h, i, j] => match i1 a, i1 b, i1 c, i1 d, i1 e, i1 f, i1 g, i1 h, i1 i, b1 j with
   | some a, some b, some c, some d, some e, some f, some g, some h, some i, some j => some ⟨a, b, c, d, e, f, g, h, i, j⟩
   | _, _, _, _, _, _, _, _, _, _ => none
 | _ => none
theorem i1_v (R : Nat → Row) {x : AV} {n : Int} (h : i1 x = some n) : x.v R = .int .i64 n := by
 cases x <;> simp [i1] at h <;> subst h <;> rfl
theorem b1_v (R : Nat → Row) {x : AV} {b : Bool} (h : b1 x = some b) : x.v R = .bool b := by
 cases x <;> simp [b1] at h <;> subst h <;> rfl
theorem dC_v (R : Nat → Row) {x : AV} {c : S54} (h : dC x = some c) : x.v R = (clA c).v R := by
 unfold dC at h
 split at h
 ·split at h
  ·rename_i e0 e1 e2 e3 e4 e5 e6 e7 e8 e9
   injection h with h
   subst h
   simp only [AV.v, AV.vs, clA, i1_v R e0, i1_v R e1, i1_v R e2, i1_v R e3, i1_v R e4, i1_v R e5, i1_v R e6, i1_v R e7, i1_v R e8, b1_v R e9]
  ·cases h
 ·cases h
structure Fn (f : FuncId) (g : List AV → Option AV) : Prop where
 fn : ∃ fn, Tryz.prog.funcs[f]? = some fn ∧ (fn.name == "runtime.NumGoroutine") = false ∧ fn.body.isSome = true
 run : ∀ R l v, g l = some v → ∀ w, Calls Tryz.prog f (AV.vs R l).toArray w fun e w' => e = .returned (v.v R) ∧ Below w.heap.size w w'
def look : List (FuncId × (List AV → Option AV)) → FuncId → Option (List AV → Option AV)
 | [], _ => none
 | (i, g) :: l, f => if i == f then some g else look l f
def mkX (O : Ops) (L : List (FuncId × (List AV → Option AV))) : Cx := ⟨tab, O, R0, look L, fun _ => none, fun _ => none⟩
def All (L : List (FuncId × (List AV → Option AV))) : Prop := ∀ f g, look L f = some g → Fn f g
theorem ZW : All [] := fun _ _ h => by cases h
theorem all_cons {i : FuncId} {g : List AV → Option AV} {L : List (FuncId × (List AV → Option AV))} (h : Fn i g) (hL : All L) : All ((i, g) :: L) := by
 intro f g' hl
 simp only [look] at hl
 split at hl
 ·rename_i he
  injection hl with hl
  subst hl
  rw [beq_iff_eq] at he
  subst he
  exact h
 ·exact hL f g' hl
theorem ZgA {O : Ops} (hO : O = std) {L : List (FuncId × (List AV → Option AV))} (hL : All L) (w : World) : CxOk Tryz.prog (mkX O L) (fun _ => 0) 0 w :=
 ⟨ZcF, ZcG, hO, fun r _ i h => absurd h (Nat.not_lt_zero _), fun f g l v h1 h2 => ⟨(hL f g h1).fn, fun w _ => (hL f g h1).run R0 l v h2 w⟩, fun _ _ _ _ _ _ h => (by cases h), fun _ _ _ _ _ h => (by cases h), fun _ _ => ⟨rfl, rfl⟩, fun _ _ => rfl, fun _ _ h => (by cases h)⟩
def Walk (f : FuncId) (L : List (FuncId × (List AV → Option AV))) (dep n : Nat) (args : List AV) (v : Value) : Prop :=
 ∃ fn c, Tryz.prog.funcs[f]? = some fn ∧ fn.body = some c ∧ ZaB c = true ∧ args.length ≤ fn.ntmps ∧ ∀ O, O = std → (seg (mkX O L) n [.code c] (ZaY dep fn.ntmps (Zbo args) [])).holds (Ans (mkX O L) fn.results.toList v)
theorem Walk.calls {f : FuncId} {L : List (FuncId × (List AV → Option AV))} {dep n : Nat} {args : List AV} {v : Value} (h : Walk f L dep n args v) (hL : All L) (w : World) : Calls Tryz.prog f (AV.vs R0 args).toArray w fun e w' => e = .returned v ∧ Below w.heap.size w w' := by
 obtain ⟨fn, c, h1, h2, h3, h4, h5⟩ := h
 exact ZdS (X := mkX std L) (d1 := fun _ => 0) h1 h2 h3 hm (ZgA rfl hL w) args dep n h4 v (h5 std rfl)
abbrev Zfk (f : FuncId) : Prop := ∃ fn, Tryz.prog.funcs[f]? = some fn ∧ (fn.name == "runtime.NumGoroutine") = false ∧ fn.body.isSome = true
theorem Fn.of1 {f : FuncId} {F : Int → AV} (hn : Zfk f) (hv : ∀ R a, (F a).v R = (F a).v R0) (h : ∀ a w, Calls Tryz.prog f (AV.vs R0 [.int a]).toArray w fun e w' => e = .returned ((F a).v R0) ∧ Below w.heap.size w w') : Fn f (c1 F) := by
 refine ⟨hn, fun R l v hg w => ?_⟩
 unfold c1 at hg
 split at hg
 ·split at hg
  ·rename_i x _ p a hx
   injection hg with hg
   subst hg
   have := h a w
   rw [hv R a]
   simpa only [AV.vs, AV.v, i2_v R hx] using this
  ·cases hg
 ·cases hg
theorem Fn.of2 {f : FuncId} {F : Int → Int → AV} (hn : Zfk f) (hv : ∀ R a b, (F a b).v R = (F a b).v R0) (h : ∀ a b w, Calls Tryz.prog f (AV.vs R0 [.int a, .int b]).toArray w fun e w' => e = .returned ((F a b).v R0) ∧ Below w.heap.size w w') : Fn f (c2 F) := by
 refine ⟨hn, fun R l v hg w => ?_⟩
 unfold c2 at hg
 split at hg
 ·split at hg
  ·rename_i x y _ p a hx
   split at hg
   ·rename_i q b hy
    injection hg with hg
    subst hg
    have := h a b w
    rw [hv R a b]
    simpa only [AV.vs, AV.v, i2_v R hx, i2_v R hy] using this
   ·cases hg
  ·cases hg
 ·cases hg
theorem Fn.of3 {f : FuncId} {F : Int → Int → Int → AV} (hn : Zfk f) (hv : ∀ R a b c, (F a b c).v R = (F a b c).v R0) (h : ∀ a b c w, Calls Tryz.prog f (AV.vs R0 [.int a, .int b, .int c]).toArray w fun e w' => e = .returned ((F a b c).v R0) ∧ Below w.heap.size w w') : Fn f (c3 F) := by
 refine ⟨hn, fun R l v hg w => ?_⟩
 unfold c3 at hg
 split at hg
 ·split at hg
  ·rename_i x y z _ p a hx
   split at hg
   ·rename_i q b hy
    split at hg
    ·rename_i r c hz
     injection hg with hg
     subst hg
     have := h a b c w
     rw [hv R a b c]
     simpa only [AV.vs, AV.v, i2_v R hx, i2_v R hy, i2_v R hz] using this
    ·cases hg
   ·cases hg
  ·cases hg
 ·cases hg
end Go.Proofs.YtgghglocfdcegaaGreat.Xec
namespace Go.Proofs.YtgghglocfdcegaaGreat.Xec
open Go Go.RowKit Go.Proofs.YtgghglocfdcegaaGreat.PFnExactCrewRun Go.Proofs.YtgghglocfdcegaaGreatW.PrintWords Go.Proofs.YtgghglocfdcegaaGreatW.PrintLast
set_option linter.unusedVariables false
set_option linter.unusedSimpArgs false
section
variable {P : Program} {Qf : Exit → Act → World → Prop} {X : Cx} {d1 : Nat → Nat} {n1 : Nat} {w1 : World} {d : Nat → Nat} {st : St} {a : Act} {w : World}
theorem Zak.below_ (hr : Zak X.R d1 n1 w1 d st.b w) {w' : World} (h : Below w.heap.size w w') : Zak X.R d1 n1 w1 d st.b w' := hr.below h
theorem Zak.reroot (hr : Zak X.R d1 n1 w1 d st.b w) : Zak X.R d st.b.length w d st.b w :=
 ⟨hr.box, hr.inj, Nat.le_refl _, fun _ _ => rfl, fun i h1 h2 => by omega, Upd.refl _ _⟩
theorem Zes (hr : Zak X.R d1 n1 w1 d st.b w) {k : Nat} (h : Bx d st.b.length k) (hk : k < w1.heap.size) : Bx d1 n1 k := by
 obtain ⟨i, hi, rfl⟩ := h
 by_cases hn : i < n1
 ·exact ⟨i, hn, hr.old i hn⟩
 ·have := hr.new i (by omega) hi
  omega
theorem CxOk.reroot (hX : CxOk P X d1 n1 w1) (hr : Zak X.R d1 n1 w1 d st.b w) : CxOk P X d st.b.length w := by
 have tr : ∀ w', Upd (Bx d st.b.length) w w' → Upd (Bx d1 n1) w1 w' := fun w' h => hr.upd.trans h (fun x hx hlt => Zes hr hx hlt)
 refine ⟨hX.T, hX.nz, hX.O, fun r hwin i hi => ?_, fun f g l v h1 h2 => ⟨(hX.C f g l v h1 h2).1, fun w' hw' => (hX.C f g l v h1 h2).2 w' (tr w' hw')⟩, fun f g cs l cs' v h1 h2 => ?_, hX.E, hX.W, fun i hi => hX.W1 i (Nat.le_trans hr.len hi), fun r b hw => ?_⟩
 ·obtain ⟨e1, e2, e3, e4, e5⟩ := hX.R r hwin i hi
  refine ⟨e1, fun hb => e2 (Zes hr hb e3), Nat.lt_of_lt_of_le e3 hr.upd.size, e4, fun q x hq => ?_⟩
  have hc := e5 q x hq
  unfold World.cell? at hc ⊢
  rw [hr.upd.block _ e3 e2]
  exact hc
 ·obtain ⟨e1, e2, e3⟩ := hX.M f g cs l cs' v h1 h2
  exact ⟨e1, e2, fun w' b ty hw' => e3 w' b ty (tr w' hw')⟩
 ·obtain ⟨v1, v2, v3, v4, v5⟩ := hX.V r b hw
  exact ⟨Nat.lt_of_lt_of_le v1 hr.len, by rw [hr.old b v1]; exact v2, v3, v4, v5⟩
theorem Zak.compose (hr : Zak X.R d1 n1 w1 d st.b w) {b : List (List AV)} {w' : World} (h : Zak X.R d st.b.length w d b w') : Zak X.R d1 n1 w1 d b w' :=
 ⟨h.box, h.inj, Nat.le_trans hr.len h.len, hr.old, fun i h1 h2 => if hi : i < st.b.length then hr.new i h1 hi else Nat.le_trans hr.upd.size (h.new i (Nat.le_of_not_lt hi) h2), hr.upd.trans h.upd (fun x hx hlt => Zes hr hx hlt)⟩
theorem ZdC (hP : ∀ c a w dst v, Qf (.panic c) (a.put dst v) w → Qf (.panic c) a w) (hm : P.follows .mixedOrders = true) (hX : CxOk P X d1 n1 w1) {all : Array Oper} {o : Oper} {l : List Oper} {K : List KI}
 (hK : KOk K) (hR : Rel X.R d st a) (hr : Zak X.R d1 n1 w1 d st.b w) (hg : Zbw all st o = .known true) {c : Call} (ho : o.op = .call c) {f : FuncId} (hc : c.callee = .value (.func f))
 (hn : ∃ fn, P.funcs[f]? = some fn ∧ (fn.name == "runtime.NumGoroutine") = false ∧ fn.body.isSome = true) {L : List AV} (hl : evL st c.args.toList = some L) {Post : Ending → World → Prop} (hcall : Calls P f (AV.vs X.R L).toArray w Post)
 (hpost : ∀ e w', Post e w' → ∃ y n st', e = .returned (y.v X.R) ∧ Below w.heap.size w w' ∧ putX st o.dst (.v y) st.b = some st' ∧ (seg X n (.ops all l :: K) st').holds (Owes P X d st.b.length w' Qf)) :
 wpK P Qf (.ops all (o :: l) :: K) .normal a w := by
 obtain ⟨fn, hf, hnm, hbd⟩ := hn
 show wpList P all (wpK P Qf K) (o :: l) a w
 unfold wpList
 rw [ZaU hR hg, if_pos rfl]
 refine .inl ?_
 unfold Oper.wp
 rw [Zba ho hc hf hnm hbd w, Oper.upon_enter]
 have e : c.args.map a.eval = (AV.vs X.R L).toArray := by
  rw [← Zbv hR hl, ← Array.toList_map, Array.toArray_toList]
 rw [e]
 refine hcall.mono fun e w' hq => ?_
 obtain ⟨y, n, st', rfl, hb, hp, hh⟩ := hpost e w' hq
 obtain ⟨h1, h2⟩ := hR.put (d' := d) (fun _ _ => rfl) (Nat.le_refl _) (SOk.v ..) hp
 have hr' : Zak X.R d1 n1 w1 d st.b w' := hr.below hb
 exact ZaS hP hm (hX.reroot hr') (fun l hl hk d a w => hl hk d a w) n (.ops all l :: K) st' d _ w' hK h1 (h2 ▸ hr'.reroot) hh
theorem ZcQ (hP : ∀ c a w dst v, Qf (.panic c) (a.put dst v) w → Qf (.panic c) a w) (hm : P.follows .mixedOrders = true) (hX : CxOk P X d1 n1 w1) {ops : Array Oper} {W : List Nat} {i : Nat} {o : Oper} {l : List (Nat × Oper)} {K : List KI} {n : Nat}
 (hK : KOk K) (hR : Rel X.R d st a) (hr : Zak X.R d1 n1 w1 d st.b w) (hgu : o.guard = none) (hH : (hand ops.toList).contains i = false) (hD : i ∉ dsOf ops.toList) {c : Call} (ho : o.op = .call c) {f : FuncId} (hc : c.callee = .value (.func f))
 (hn : ∃ fn, P.funcs[f]? = some fn ∧ (fn.name == "runtime.NumGoroutine") = false ∧ fn.body.isSome = true) {L : List AV} (hl : evL st c.args.toList = some L) {Post : Ending → World → Prop} (hcall : Calls P f (AV.vs X.R L).toArray w Post)
 (hpost : ∀ e w', Post e w' → ∃ y st', e = .returned (y.v X.R) ∧ Below w.heap.size w w' ∧ putX st o.dst (.v y) st.b = some st' ∧ (segS X (hand ops.toList) (dsOf ops.toList) W (fun st => seg X n K st) (fun _ _ => .stuck 36) l st').holds (Owes P X d st.b.length w' Qf)) {li : Array Bool} (hs : Za7 ops (hand ops.toList) (dsOf ops.toList) ((i, o) :: l) li = true) (hmem : ∀ x ∈ (i, o) :: l, ops[x.1]? = some x.2) :
 wpAnyLast P .any ops (wpK P Qf K) (fun w => ∃ b, Zak X.R d1 n1 w1 d b w ∧ Zay W 0 b = Zay W 0 st.b) (dsOf ops.toList) ((i, o) :: l).length li a w := by
 obtain ⟨fn, hf, hnm, hbd⟩ := hn
 obtain ⟨hc', hs'⟩ := ZbO hs hH
 have hfn : isFn o = true := by
  unfold isFn ZcN
  rw [ho]
  simp [hc]
 rw [if_pos (by simp [hfn])] at hc'
 refine one_ _ (hmem (i, o) (by simp)) rfl hc' hD fun K' hK' => ?_
 rw [if_pos (by unfold Region.wanted; rw [hgu])]
 unfold Oper.wp
 rw [Zba ho hc hf hnm hbd w, Oper.upon_enter]
 have e : c.args.map a.eval = (AV.vs X.R L).toArray := by
  rw [← Zbv hR hl, ← Array.toList_map, Array.toArray_toList]
 rw [e]
 refine hcall.mono fun e w' hq => ?_
 obtain ⟨y, st', rfl, hb, hp, hh⟩ := hpost e w' hq
 obtain ⟨h1, h2⟩ := hR.put (d' := d) (fun _ _ => rfl) (Nat.le_refl _) (SOk.v ..) hp
 have hr' : Zak X.R d1 n1 w1 d st.b w' := hr.below hb
 exact hK' _ _ ⟨st.b, hr', rfl⟩ (fun _ => Za5 hX (hX.reroot hr') (fun b w h => hr'.compose h) hP (fun d' st' a' w2 hR' hr2 hh => ZaS hP hm (hX.reroot hr') (fun l hl hk d a w => hl hk d a w) n K st' d' a' w2 hK hR' hr2 hh) (mk := fun _ _ => .stuck 36) (fun _ _ _ _ _ _ _ _ _ _ h => False.elim h) l _ st' _ w' (fun x hx => hmem x (by simp [hx])) hs' h1 (h2 ▸ hr'.reroot) (by rw [h2]) hh)
abbrev DT := FuncId → Option (List AV → Option (List Int × (AV → AV)))
structure DOk (P : Program) (X : Cx) (d1 : Nat → Nat) (n1 : Nat) (w1 : World) (D : DT) : Prop where
 named : ∀ f G, D f = some G → ∃ fn, P.funcs[f]? = some fn ∧ (fn.name == "runtime.NumGoroutine") = false ∧ fn.body.isSome = true
 run : ∀ f G L r, D f = some G → G L = some r → ∀ w, Upd (Bx d1 n1) w1 w → Calls P f (AV.vs X.R L).toArray w fun e w' => ∃ a k c, e = .returned ((r.2 (.slc a k c)).v X.R) ∧ (Kd.int .i64).R 3 w' w.heap.size (fun _ => True) (.slice a k c) r.1 ∧ Below w.heap.size w w'
def Ans2 (X : Cx) (rs : List ResultVar) (l1 : List Int) (s : AV) (m : List Int) (E : Value → Value) : Leaf → Prop
 | .fin st => match Zbb X st rs with
   | some u => (u.v X.R = E (s.v X.R) ∧ m = l1) ∨ (u.v X.R = E (.slice none 0 0) ∧ m = [])
   | none => False
 | _ => False
def AnsD (X : Cx) (D : DT) (n : Nat) (rs : List ResultVar) (m : List Int) (E : Value → Value) (s : AV) : Leaf → Prop
 | .fin st => match Zbb X st rs with
   | some u => u.v X.R = E (.slice none 0 0) ∧ m = []
   | none => False
 | .stop (.ops all (o :: l) :: K) st => match Zbw all st o with
   | .known true => match o.op with
     | .call c => match c.callee with
       | .value (.func f) => match D f with
         | some G => match evL st c.args.toList with
           | some L => match G L with
             | some (l1, g) => match putX st o.dst (.v (g s)) st.b with
               | some st' => (seg X n (.ops all l :: K) st').holds (Ans2 X rs l1 s m E)
               | none => False
             | none => False
           | none => False
         | none => False
       | _ => False
     | _ => False
   | _ => False
 | .stopS ops W _ K ((i, o) :: l) st => if (hand ops.toList).contains i || (dsOf ops.toList).contains i then False else match o.guard with
   | none => match o.op with
     | .call c => match c.callee with
       | .value (.func f) => match D f with
         | some G => match evL st c.args.toList with
           | some L => match G L with
             | some (l1, g) => match putX st o.dst (.v (g s)) st.b with
               | some st' => (segS X (hand ops.toList) (dsOf ops.toList) W (fun st => seg X n K st) (fun _ _ => .stuck 36) l st').holds (Ans2 X rs l1 s m E)
               | none => False
             | none => False
           | none => False
         | none => False
       | _ => False
     | _ => False
   | _ => False
 | _ => False
theorem Zbh (t : Tr Leaf) {Q Q' : Leaf → Prop} (hQ : ∀ l, Q l → Q' l) : t.holds Q → t.holds Q' := by
 induction t with
 | ret x => exact hQ x
 | ite b x y ihx ihy => exact fun h => ⟨fun hb => ihx () (h.1 hb), fun hb => ihy () (h.2 hb)⟩
 | need b x ih => exact fun h => ⟨h.1, ih () h.2⟩
 | stuck => exact id
theorem Zdw {α : Type} [Inhabited α] (t : Tr Leaf) {Q : α → Leaf → Prop} : (∀ x, t.holds (Q x)) → t.holds (fun l => ∀ x, Q x l) := by
 induction t with
 | ret x => exact id
 | ite b x y ihx ihy => exact fun h => ⟨fun hb => ihx () (fun x => (h x).1 hb), fun hb => ihy () (fun x => (h x).2 hb)⟩
 | need b x ih => exact fun h => ⟨(h default).1, ih () (fun x => (h x).2)⟩
 | stuck => exact fun h => h default
theorem Zag {fn : Func} {Post : Ending → World → Prop} (c : List PanicEntry) (a : Act) (w : World) (dst : Option Tmp) (v : Value) (h : bodyPost P fn Post (.panic c) (a.put dst v) w) : bodyPost P fn Post (.panic c) a w := by
 cases dst <;> exact h
theorem Zcw {base : Nat} {w w' w2 : World} {v : Value} {xs : List Int} (h : (Kd.int .i64).R 3 w2 w'.heap.size (fun _ => True) v xs) (hb : base ≤ w'.heap.size) {S : Nat → Prop} (hu : Upd S w2 w) (hS : ∀ k, S k → k < w'.heap.size) : (Kd.int .i64).R 3 w base (fun _ => True) v xs := by
 have h1 := Kd.R_bound h
 have h2 := Kd.R_move h1 (w1 := w) (fun k ⟨_, hk1, hk2, _⟩ => hu.block k hk2 (fun hs => by have := hS k hs; omega))
 exact Kd.R_lower (Kd.R_mono h2 fun _ _ => trivial) hb
theorem ZdE {fn : Func} {w' w2 : World} (hX : CxOk P X d1 0 w) (hr : Zak X.R d1 0 w d st.b w') {A : Option Addr} {k c' : Nat} {l1 m : List Int} {E : Value → Value} (hrow : (Kd.int .i64).R 3 w2 w'.heap.size (fun _ => True) (.slice A k c') l1) (hbl : Below w'.heap.size w' w2) {lf : Leaf} (hlf : Ans2 X fn.results.toList l1 (.slc A k c') m E lf) :
 Owes P X d st.b.length w2 (bodyPost P fn fun e w' => ∃ v, e = .returned (E v) ∧ (Kd.int .i64).R 3 w' w.heap.size (fun _ => True) v m ∧ Below w.heap.size w w') lf := by
 intro hk d2 a2 w3 hR2 hr2
 have hX2 := hX.reroot (hr.below hbl)
 cases lf with
 | stop => exact hlf.elim
 | stopS => exact hlf.elim
 | fin st2 =>
   simp only [Ans2] at hlf
   split at hlf
   ·rename_i u hu
    have e := Za6 hX2 hR2 hr2 hu
    have bel2 : Below w.heap.size w w3 := (((hr.below hbl).upd).trans hr2.upd (fun x hx hlt => Zes (hr.below hbl) hx hlt)).below (fun k ⟨i, hi, _⟩ => by omega)
    have : a2.defers = [] ∧ ∃ v, (results fn a2.tmps).run P w3 = .ok v w3 ∧ ∃ v', Ending.returned v = .returned (E v') ∧ (Kd.int .i64).R 3 w3 w.heap.size (fun _ => True) v' m ∧ Below w.heap.size w w3 := by
     refine ⟨hR2.defers, _, e, ?_⟩
     rcases hlf with ⟨h1, rfl⟩ | ⟨h1, rfl⟩
     ·refine ⟨_, by rw [h1]; rfl, Zcw hrow hr.upd.size hr2.upd (fun k ⟨i, hi, e⟩ => ?_), bel2⟩
      obtain ⟨cs, hcs⟩ : ∃ cs, st.b[i]? = some cs := ⟨_, List.getElem?_eq_getElem hi⟩
      obtain ⟨ty, -, ht⟩ := hr.box i cs hcs
      rw [e]
      exact (Array.getElem?_eq_some_iff.1 ht).1
     ·exact ⟨_, by rw [h1], Kd.R_nil .., bel2⟩
    exact ⟨this, this⟩
   ·exact hlf.elim
theorem ZfT {f : FuncId} {fn : Func} {c : Code} (hf : P.funcs[f]? = some fn) (hb : fn.body = some c) (hok : ZaB c = true) (hm : P.follows .mixedOrders = true) (hX : CxOk P X d1 0 w) {D : DT} (hD : DOk P X d1 0 w D) (args : List AV) (dep n : Nat) (hn : args.length ≤ fn.ntmps) (m : List Int) (E : Value → Value)
 (h : ∀ a k c', (seg X n [.code c] (ZaY dep fn.ntmps (Zbo args) [])).holds (AnsD X D n fn.results.toList m E (.slc a k c'))) : Calls P f (AV.vs X.R args).toArray w fun e w' => ∃ v, e = .returned (E v) ∧ (Kd.int .i64).R 3 w' w.heap.size (fun _ => True) v m ∧ Below w.heap.size w w' := by
 refine ZaD hf hb hok hm hX args dep n hn ?_
 have h' := Zdw (α := Option Addr × Nat × Nat) _ (Q := fun x l => AnsD X D n fn.results.toList m E (.slc x.1 x.2.1 x.2.2) l) (fun x => h x.1 x.2.1 x.2.2)
 refine Zbh _ (fun l hl hk d a w' hR hr => ?_) h'
 have nil_ : ∀ (w : World) (base : Nat), (Kd.int .i64).R 3 w base (fun _ => True) (.slice none 0 0) [] := fun w base => Kd.R_nil ..
 have bel : Below w.heap.size w w' := hr.upd.below (fun k ⟨i, hi, _⟩ => by omega)
 cases l with
 | fin st =>
   have hl := hl (none, 0, 0)
   obtain ⟨u, hu, h1, rfl⟩ : ∃ u, Zbb X st fn.results.toList = some u ∧ u.v X.R = E (.slice none 0 0) ∧ m = [] := by
    simp only [AnsD] at hl
    split at hl
    ·rename_i u hu
     exact ⟨u, hu, hl⟩
    ·exact hl.elim
   have e := Za6 hX hR hr hu
   have : a.defers = [] ∧ ∃ v, (results fn a.tmps).run P w' = .ok v w' ∧ ∃ v', Ending.returned v = .returned (E v') ∧ (Kd.int .i64).R 3 w' w.heap.size (fun _ => True) v' [] ∧ Below w.heap.size w w' :=
    ⟨hR.defers, _, e, .slice none 0 0, by rw [h1], nil_ _ _, bel⟩
   exact ⟨this, this⟩
 | stop KK st =>
   match KK, hl, hk with
   | .ops all (o :: l) :: K, hl, hk =>
     have key := hl (none, 0, 0)
     simp only [AnsD] at key hl
     split at key
     ·rename_i hg
      split at key
      ·rename_i c ho
       split at key
       ·rename_i g hc
        split at key
        ·rename_i G hG
         split at key
         ·rename_i L hL
          split at key
          ·rename_i l1 g' hGL
           simp only [hg, ho, hc, hG, hL, hGL] at hl
           show wpK P _ _ .normal a w'
           refine ZdC Zag hm hX hk hR hr hg ho hc (hD.named _ _ hG) hL (hD.run _ _ _ _ hG hGL w' hr.upd) ?_
           rintro e w2 ⟨A, k, c', rfl, hrow, hbl⟩
           have hl2 := hl (A, k, c')
           split at hl2
           ·rename_i st' hp
            exact ⟨_, n, st', rfl, hbl, hp, Zbh _ (fun lf hlf => ZdE hX hr hrow hbl hlf) hl2⟩
           ·exact hl2.elim
          ·exact key.elim
         ·exact key.elim
        ·exact key.elim
       ·exact key.elim
      ·exact key.elim
     ·exact key.elim
   | [], hl, hk => exact (hl (none, 0, 0)).elim
   | .code _ :: _, hl, hk => exact (hl (none, 0, 0)).elim
   | .blk _ :: _, hl, hk => exact (hl (none, 0, 0)).elim
   | .mk _ _ :: _, hl, hk => exact (hl (none, 0, 0)).elim
   | .ops _ [] :: _, hl, hk => exact (hl (none, 0, 0)).elim
 | stopS ops W n' K l st =>
   match l, hl with
   | [], hl => exact (hl (none, 0, 0)).elim
   | (i, o) :: l, hl =>
     intro li hs hmem
     have key := hl (none, 0, 0)
     simp only [AnsD] at key hl
     split at key
     ·exact key.elim
     rename_i hH
     have hH' : ((hand ops.toList).contains i || (dsOf ops.toList).contains i) = false := by simpa using hH
     simp only [hH', Bool.false_eq_true, if_false] at hl
     simp only [Bool.or_eq_true, not_or] at hH
     split at key
     ·rename_i hg
      split at key
      ·rename_i c ho
       split at key
       ·rename_i g hc
        split at key
        ·rename_i G hG
         split at key
         ·rename_i L hL
          split at key
          ·rename_i l1 g' hGL
           simp only [hg, ho, hc, hG, hL, hGL] at hl
           refine ZcQ (n := n) Zag hm hX hk hR hr hg (by simpa using hH.1) (by simpa using hH.2) ho hc (hD.named _ _ hG) hL (hD.run _ _ _ _ hG hGL w' hr.upd) ?_ hs hmem
           rintro e w2 ⟨A, k, c', rfl, hrow, hbl⟩
           have hl2 := hl (A, k, c')
           split at hl2
           ·rename_i st' hp
            exact ⟨_, st', rfl, hbl, hp, Zbh _ (fun lf hlf => ZdE hX hr hrow hbl hlf) hl2⟩
           ·exact hl2.elim
          ·exact key.elim
         ·exact key.elim
        ·exact key.elim
       ·exact key.elim
      ·exact key.elim
     ·exact key.elim
theorem ZaT {c : Code} {K : List KI} (k : Nat) (h : wpK P Qf (.mk k c :: K) .normal a w) : wpK P Qf (.code (.loop c) :: K) .normal a w := wp_loop_rounds k h
theorem Zf6 (K : List KI) (k : Nat) (c : Code) (e : Exit) (a : Act) (w : World) : wpK P Qf (.mk k c :: K) e a w → Exit.then (Code.rounds P c (wpK P Qf K) k) (wpK P Qf K) e a w := by
 cases e <;> exact id
theorem ZdN {c : Code} {K : List KI} {k : Nat} (h : wpK P Qf (.code c :: .mk k c :: K) .normal a w) : wpK P Qf (.mk (k + 1) c :: K) .normal a w := by
 show c.wp P (Exit.then (Code.rounds P c (wpK P Qf K) k) (wpK P Qf K)) a w
 exact Code.wp_mono (fun e a w => Zf6 K k c e a w) h
structure Weak (n : Nat) (l : List (Nat × Slot)) (b : List (List AV)) (st : St) : Prop where
 n : st.n = n
 t : ∀ p ∈ l, st.t.get p.1 = p.2
 b : ∃ c, st.b = b ++ c
def Zfp : Slot → Slot → Prop
 | .v (.lit a), .v (.int b) => a = b
 | .v (.bl a), .v (.bool b) => a = b
 | s, s' => s = s'
theorem Zd7 {s s' : Slot} (h : Zfp s s') : s = s' ∨ ∃ x y, s = .v x ∧ s' = .v y ∧ ∀ R, x.v R = y.v R := by
 unfold Zfp at h
 split at h
 ·exact .inr ⟨_, _, rfl, rfl, fun R => by rw [h]; rfl⟩
 ·exact .inr ⟨_, _, rfl, rfl, fun R => by rw [h]; rfl⟩
 ·exact .inl h
def Zet (t : Tm) : List (Nat × Slot) → Prop
 | [] => True
 | (i, s) :: l => Zfp (t.get i) s ∧ Zet t l
def ZeL : List (List AV) → List (List AV) → Prop
 | [], _ => True
 | x :: b, y :: c => x = y ∧ ZeL b c
 | _ :: _, [] => False
theorem Zde (t : Tm) : ∀ l, Zet t l → ∀ p ∈ l, Zfp (t.get p.1) p.2
 | [], _, p, h => by cases h
 | (i, s) :: l, h, p, hp => by
   rcases List.mem_cons.1 hp with rfl | hp
   ·exact h.1
   ·exact Zde t l h.2 p hp
theorem Zcf : ∀ (b c : List (List AV)), ZeL b c → ∃ r, c = b ++ r
 | [], c, _ => ⟨c, rfl⟩
 | x :: b, y :: c, h => by
   obtain ⟨r, hr⟩ := Zcf b c h.2
   exact ⟨r, by rw [h.1, hr]; rfl⟩
def St.of (dep n : Nat) (l : List (Nat × Slot)) (b : List (List AV)) : St := ⟨n, (Tm.full dep).puts l, b⟩
theorem ZcW : ∀ (l : List (Nat × Slot)) (t : Tm) (i : Nat), (t.puts l).get i = .dead ∨ (∃ p ∈ l, p.1 = i ∧ p.2 = (t.puts l).get i) ∨ (t.puts l).get i = t.get i
 | [], t, i => .inr (.inr rfl)
 | (j, s) :: l, t, i => by
   rcases ZcW l (t.put j s) i with h | ⟨p, hp, h1, h2⟩ | h
   ·exact .inl h
   ·exact .inr (.inl ⟨p, List.mem_cons_of_mem _ hp, h1, h2⟩)
   ·simp only [Tm.puts]
    rw [h]
    rcases Za8 t j i s with h' | h'
    ·exact .inl h'
    ·by_cases he : j = i
     ·rw [if_pos he] at h'
      exact .inr (.inl ⟨(j, s), List.mem_cons_self, he, h'.symm⟩)
     ·rw [if_neg he] at h'
      exact .inr (.inr h')
theorem Rel.weaken {R : Nat → Row} (hR : Rel R d st a) {dep n : Nat} {l : List (Nat × Slot)} {b : List (List AV)} (h1 : st.n = n) (h2 : Zet st.t l) (hs : ∀ p ∈ l, ∀ i o, p.2 = .ptr i o → i < b.length) : Rel R d (St.of dep n l b) a := by
 have key : ∀ i, ((Tm.full dep).puts l).get i = .dead ∨ (∃ p ∈ l, p.1 = i ∧ p.2 = ((Tm.full dep).puts l).get i) := by
  intro i
  rcases ZcW l (Tm.full dep) i with h | h | h
  ·exact .inl h
  ·exact .inr h
  ·exact .inl (by rw [h, Zcb])
 have al := Zde st.t l h2
 refine ⟨hR.defers, by rw [hR.size, h1]; rfl, fun i => ?_, fun i b' o h => ?_, fun i r k o h => ?_⟩
 ·rcases key i with h | ⟨p, hp, e1, e2⟩
  ·exact .inl h
  ·have hs := al p hp
   rw [e1, e2] at hs
   rcases Zd7 hs with he | ⟨x, y, hx, hy, hv⟩
   ·rcases hR.slot i with h | h
    ·left
     show ((Tm.full dep).puts l).get i = .dead
     rw [← he, h]
    ·right
     show a.tmps[i]? = some ((((Tm.full dep).puts l).get i).val R d)
     rw [← he, h]
   ·rcases hR.slot i with h | h
    ·rw [hx] at h; cases h
    ·right
     show a.tmps[i]? = some ((((Tm.full dep).puts l).get i).val R d)
     rw [hy, h, hx]
     exact congrArg some (hv R)
 ·rcases key i with h' | ⟨p, hp, e1, e2⟩
  ·simp only [St.of] at h; rw [h'] at h; cases h
  ·simp only [St.of] at h; rw [h] at e2
   exact hs p hp b' o e2
 ·rcases key i with h' | ⟨p, hp, e1, e2⟩
  ·simp only [St.of] at h; rw [h'] at h; cases h
  ·simp only [St.of] at h; rw [h] at e2
   have hs := al p hp
   rw [e1, e2] at hs
   rcases Zd7 hs with he | ⟨x, y, hx, hy, hv⟩
   ·exact hR.okE i r k o he
   ·cases hy
theorem Zak.weaken {R : Nat → Row} {b c : List (List AV)} (hr : Zak R d1 n1 w1 d (b ++ c) w) (hn : n1 ≤ b.length) : Zak R d1 n1 w1 d b w :=
 ⟨fun i cs h => hr.box i cs (by rw [List.getElem?_append_left (List.getElem?_eq_some_iff.1 h).1]; exact h), fun i j hi hj => hr.inj i j (by simp; omega) (by simp; omega), hn, hr.old, fun i h1 h2 => hr.new i h1 (by simp; omega), hr.upd⟩
def ptrB (n : Nat) : List (Nat × Slot) → Bool
 | [] => true
 | (_, .ptr i _) :: l => Nat.blt i n && ptrB n l
 | _ :: l => ptrB n l
theorem ZaJ (n : Nat) : ∀ l, ptrB n l = true → ∀ p ∈ l, ∀ i o, p.2 = .ptr i o → i < n
 | [], _, p, hp => by cases hp
 | (j, s) :: l, h, p, hp => by
   rcases List.mem_cons.1 hp with rfl | hp
   ·intro i o e
    simp only at e
    subst e
    simp only [ptrB, Bool.and_eq_true, Nat.blt_eq] at h
    exact h.1
   ·refine ZaJ n l ?_ p hp
    cases s <;> simp_all [ptrB]
def AtS (n : Nat) (l : List (Nat × Slot)) (b : List (List AV)) (st : St) : Prop := st.n = n ∧ Zet st.t l ∧ ZeL b st.b
theorem Zfu (hP : ∀ c a w dst v, Qf (.panic c) (a.put dst v) w → Qf (.panic c) a w) (hm : P.follows .mixedOrders = true) (hX : CxOk P X d1 n1 w1) {c : Code} {K : List KI} (hK : KOk (.mk 0 c :: K)) (dep nt fuel : Nat) (l : Nat → List (Nat × Slot)) (b : Nat → List (List AV)) (hb : ∀ k, ptrB (b k).length (l k) = true ∧ n1 ≤ (b k).length)
 (N : Nat) (I : Nat → Prop) (h : ∀ k, k < N → I (k + 1) → (seg X fuel (.code c :: .mk k c :: K) (St.of dep nt (l (k + 1)) (b (k + 1)))).holds (fun lf => (∃ st, lf = .stop (.mk k c :: K) st ∧ 0 < k ∧ I k ∧ AtS nt (l k) (b k) st) ∨ Owes P X d1 n1 w1 Qf lf)) :
 ∀ k, 0 < k → k ≤ N → I k → ∀ st d a w, AtS nt (l k) (b k) st → Rel X.R d st a → Zak X.R d1 n1 w1 d st.b w → wpK P Qf (.mk k c :: K) .normal a w := by
 have go : ∀ k, k < N → I (k + 1) → ∀ st d a w, AtS nt (l (k + 1)) (b (k + 1)) st → Rel X.R d st a → Zak X.R d1 n1 w1 d st.b w → wpK P Qf (.mk (k + 1) c :: K) .normal a w := by
  intro k
  induction k with
  | zero =>
    intro hkN hI st d a w ⟨h1, h2, h3⟩ hR hr
    refine ZdN ?_
    obtain ⟨r, e⟩ := Zcf _ _ h3
    have hR' := hR.weaken (dep := dep) (b := b 1) h1 h2 (ZaJ _ _ (hb 1).1)
    have hr' := (e ▸ hr : Zak X.R d1 n1 w1 d (b 1 ++ r) w).weaken (hb 1).2
    exact ZaS hP hm hX (fun lf hl hk d a w hR hr => by
     rcases hl with ⟨st, rfl, h0, _⟩ | hl
     ·omega
     ·exact hl hk d a w hR hr) fuel (.code c :: .mk 0 c :: K) _ d a w ⟨hK.1, hK.1, hK.2⟩ hR' hr' (h 0 hkN hI)
  | succ k ih =>
    intro hkN hI st d a w ⟨h1, h2, h3⟩ hR hr
    refine ZdN ?_
    obtain ⟨r, e⟩ := Zcf _ _ h3
    have hR' := hR.weaken (dep := dep) (b := b (k + 1 + 1)) h1 h2 (ZaJ _ _ (hb (k + 1 + 1)).1)
    have hr' := (e ▸ hr : Zak X.R d1 n1 w1 d (b (k + 1 + 1) ++ r) w).weaken (hb (k + 1 + 1)).2
    exact ZaS hP hm hX (fun lf hl hk d a w hR hr => by
     rcases hl with ⟨st, rfl, h0, hI', hs⟩ | hl
     ·exact ih (by omega) hI' st d a w hs hR hr
     ·exact hl hk d a w hR hr) fuel (.code c :: .mk (k + 1) c :: K) _ d a w ⟨hK.1, hK.1, hK.2⟩ hR' hr' (h (k + 1) hkN hI)
 intro k hk hkN
 obtain ⟨k, rfl⟩ : ∃ m, k = m + 1 := ⟨k - 1, by omega⟩
 exact go k (by omega)
end
end Go.Proofs.YtgghglocfdcegaaGreat.Xec
namespace Go.Proofs.YtgghglocfdcegaaGreat.Xec
open Go Go.RowKit Go.Proofs.YtgghglocfdcegaaGreat.PFnExactCrewRun Go.Proofs.YtgghglocfdcegaaGreatW.PrintWords
set_option linter.unusedVariables false
set_option linter.unusedSimpArgs false
def ZaA (A : Option Addr) (n c sz : Nat) (get : Int → List AV) : Row := { a := A, g := (A.getD ⟨0, 0, none⟩).block, p := (A.getD ⟨0, 0, none⟩).off, n := n, c := c, sz := sz, get := get }
def rowI (A : Option Addr) (c : Nat) (l : List Int) : Row := ZaA A l.length c 1 (fun i => [.int (rd l i)])
def rowC (A : Option Addr) (c : Nat) (l : List S54) : Row := ZaA A l.length c 10 (fun i => ZaE (clA (rd_T54 l i)))
theorem ZfO {α : Type} {d : Kd α} {w : World} {A : Option Addr} {c n : Nat} {xs : List α} {R : Nat → Row} {r : Nat} {get : Int → List AV} (hs : 0 < d.sz) (hr : R r = ZaA A n c d.sz get) (h : d.C w A n xs) (hg : ∀ i x cs, i < n → xs[i]? = some x → d.K w x cs → AV.vs R (get i) = cs) : ZaV R (Bx (fun _ => 0) 0) w r := by
 intro _ i hi
 rw [hr] at hi ⊢
 simp only [ZaA] at hi ⊢
 obtain ⟨h1, h2, h3⟩ := h
 obtain ⟨ad, e, hc⟩ := h3 (by omega)
 have hlt : i < xs.length := by omega
 obtain ⟨cs, hl, hk, hcell⟩ := hc i _ (List.getElem?_eq_getElem hlt)
 have hv := hg i _ cs hi (List.getElem?_eq_getElem hlt) hk
 obtain ⟨hsp, hbl⟩ : ad.spot = none ∧ ad.block < w.heap.size := by
  obtain ⟨cs0, hl0, -, hcell0⟩ := hc 0 _ (List.getElem?_eq_getElem (by omega : 0 < xs.length))
  have hc0 := hcell0 0 (cs0[0]'(by omega)) (List.getElem?_eq_getElem (by omega))
  have e0 : ad.add (0 * d.sz + 0) = ad := by simp [Addr.add]
  rw [e0] at hc0
  unfold World.cell? at hc0
  split at hc0
  ·rename_i c' _ _ hb
   have hlt := (Array.getElem?_eq_some_iff.1 hb).1
   split at hc0
   ·cases hc0
   ·rename_i hs
    exact ⟨by simpa using hs, hlt⟩
  ·cases hc0
 subst e
 have hlen : (get i).length = cs.length := by rw [← hv, Zbz]
 have ad_ : ∀ k, ad.add k = ⟨ad.block, ad.off + k, none⟩ := by
  intro k
  obtain ⟨b, o, s⟩ := ad
  simp only at hsp
  subst hsp
  simp only [Addr.add]
  split
  ·rename_i h0; subst h0; rfl
  ·rfl
 refine ⟨by rw [Option.getD_some, ← hsp], fun ⟨j, hj, _⟩ => by omega, hbl, by rw [hlen, hl], fun q x hq => ?_⟩
 have := hcell q (x.v R) (by rw [← hv, Zcg, hq]; rfl)
 rw [ad_] at this
 rw [Option.getD_some, Nat.add_assoc]
 exact this
theorem Zax {R : Nat → Row} {r : Nat} (h : (R r).n = 0) {S : Nat → Prop} {w : World} : ZaV R S w r := fun _ i hi => by omega
theorem ZaI {w : World} {A : Option Addr} {c : Nat} {l : List Int} {R : Nat → Row} {r : Nat} (hr : R r = rowI A c l) (h : (Kd.int .i64).C w A l.length l) : ZaV R (Bx (fun _ => 0) 0) w r := by
 refine ZfO (d := Kd.int .i64) Nat.one_pos hr h fun i x cs hi hx hk => ?_
 have e : cs = [.int .i64 x] := hk
 subst e
 simp only [AV.vs, AV.v, rd, List.getD_eq_getElem?_getD, Int.toNat_natCast, hx, Option.getD_some]
theorem ZbB {w : World} {A : Option Addr} {c : Nat} {l : List S54} {R : Nat → Row} {r : Nat} (hr : R r = rowC A c l) (h : k54.C w A l.length l) : ZaV R (Bx (fun _ => 0) 0) w r := by
 refine ZfO (d := k54) (show 0 < k54.sz by decide) hr h fun i x cs hi hx hk => ?_
 have e := k54_open hk
 subst e
 have : rd_T54 l (i : Int) = x := by simp only [rd_T54, List.getD_eq_getElem?_getD, Int.toNat_natCast, hx, Option.getD_some]
 simp only [ZaE, clA, AV.vs, AV.v, this]
structure Me (f : FuncId) (g : List AV → List AV → Option (List AV × AV)) : Prop where
 fn : ∃ fn, Tryz.prog.funcs[f]? = some fn ∧ (fn.name == "runtime.NumGoroutine") = false ∧ fn.body.isSome = true
 run : ∀ R cs l cs' v, g cs l = some (cs', v) → cs'.length = cs.length ∧ ∀ w b ty, w.heap[b]? = some (.cells (AV.vs R cs).toArray ty (0, 0)) → Calls Tryz.prog f ((Value.pointer (some ⟨b, 0, none⟩)) :: AV.vs R l).toArray w fun e w' => e = .returned (v.v R) ∧ (∃ ty, w'.heap[b]? = some (.cells (AV.vs R cs').toArray ty (0, 0))) ∧ Upd (fun k => k = b) w w'
def ZeA : List (FuncId × (List AV → List AV → Option (List AV × AV))) → FuncId → Option (List AV → List AV → Option (List AV × AV))
 | [], _ => none
 | (i, g) :: l, f => if i == f then some g else ZeA l f
def AllM (L : List (FuncId × (List AV → List AV → Option (List AV × AV)))) : Prop := ∀ f g, ZeA L f = some g → Me f g
theorem Zap : AllM [] := fun _ _ h => by cases h
theorem ZaW {i : FuncId} {g : List AV → List AV → Option (List AV × AV)} {L : List (FuncId × (List AV → List AV → Option (List AV × AV)))} (h : Me i g) (hL : AllM L) : AllM ((i, g) :: L) := by
 intro f g' hl
 simp only [ZeA] at hl
 split at hl
 ·rename_i he
  injection hl with hl
  subst hl
  rw [beq_iff_eq] at he
  subst he
  exact h
 ·exact hL f g' hl
def ZZ (l : List Row) (i : Nat) : Row :=
 match l, i with
 | [], _ => { a := none, g := 0, p := 0, n := 0, c := 0, sz := 0, get := fun _ => [] }
 | r :: _, 0 => { a := r.a, g := r.g, p := r.p, n := r.n, c := r.c, sz := r.sz, get := r.get }
 | _ :: l, i + 1 => ZZ l i
theorem ZaH : ∀ (l : List Row) (i : Nat), (ZZ l i).pre = [] ∧ (ZZ l i).post = [] ∧ (ZZ l i).wn = false ∧ (ZZ l i).win = none
 | [], _ => ⟨rfl, rfl, rfl, rfl⟩
 | _ :: _, 0 => ⟨rfl, rfl, rfl, rfl⟩
 | _ :: l, i + 1 => ZaH l i
theorem Zea (rs : List Row) (i : Nat) (_ : (ZZ rs i).wn = false) : (ZZ rs i).pre = [] ∧ (ZZ rs i).post = [] := ⟨(ZaH rs i).1, (ZaH rs i).2.1⟩
theorem Zcm (rs : List Row) (i : Nat) : (ZZ rs i).wn = false := (ZaH rs i).2.2.1
theorem Zeb {p : Prop} {rs : List Row} {r b : Nat} (h : (ZZ rs r).win = some b) : p := by
 rw [(ZaH rs r).2.2.2] at h
 cases h
def mkXR (O : Ops) (L : List (FuncId × (List AV → Option AV))) (M : List (FuncId × (List AV → List AV → Option (List AV × AV)))) (rs : List Row) : Cx := ⟨tab, O, ZZ rs, look L, ZeA M, fun _ => none⟩
theorem Zaw {O : Ops} (hO : O = std) {L : List (FuncId × (List AV → Option AV))} (hL : All L) {M : List (FuncId × (List AV → List AV → Option (List AV × AV)))} (hM : AllM M) {rs : List Row} {d1 : Nat → Nat} {n1 : Nat} {w : World} (hr : ∀ r, ZaV (ZZ rs) (Bx d1 n1) w r) : CxOk Tryz.prog (mkXR O L M rs) d1 n1 w :=
 ⟨ZcF, ZcG, hO, hr, fun f g l v h1 h2 => ⟨(hL f g h1).fn, fun w _ => (hL f g h1).run _ l v h2 w⟩, fun f g cs l cs' v h1 h2 => ⟨(hM f g h1).fn, ((hM f g h1).run (ZZ rs) cs l cs' v h2).1, fun w b ty _ => ((hM f g h1).run (ZZ rs) cs l cs' v h2).2 w b ty⟩, fun _ _ _ _ _ h => (by cases h), Zea rs, fun i _ => Zcm rs i, fun _ _ h => Zeb h⟩
def ZeE (f : FuncId) (L : List (FuncId × (List AV → Option AV))) (M : List (FuncId × (List AV → List AV → Option (List AV × AV)))) (dep n : Nat) (cs args : List AV) (cs' : List Value) (v : Value) : Prop :=
 ∃ fn c, Tryz.prog.funcs[f]? = some fn ∧ fn.body = some c ∧ ZaB c = true ∧ args.length + 1 ≤ fn.ntmps ∧ ∀ O, O = std → (seg (mkXR O L M []) n [.code c] (ZaY dep fn.ntmps (.ptr 0 0 :: Zbo args) [cs])).holds (AnsM (mkXR O L M []) fn.results.toList v cs')
theorem ZeE.calls {f : FuncId} {L : List (FuncId × (List AV → Option AV))} {M : List (FuncId × (List AV → List AV → Option (List AV × AV)))} {dep n : Nat} {cs args : List AV} {cs' : List Value} {v : Value} (h : ZeE f L M dep n cs args cs' v) (hL : All L) (hM : AllM M) (w : World) (blk ty : Nat) (hb : w.heap[blk]? = some (.cells (AV.vs (ZZ []) cs).toArray ty (0, 0))) : Calls Tryz.prog f ((Value.pointer (some ⟨blk, 0, none⟩)) :: AV.vs (ZZ []) args).toArray w fun e w' => e = .returned v ∧ (∃ ty, w'.heap[blk]? = some (.cells cs'.toArray ty (0, 0))) ∧ Upd (fun k => k = blk) w w' := by
 obtain ⟨fn, c, h1, h2, h3, h4, h5⟩ := h
 exact Zge (X := mkXR std L M []) h1 h2 h3 hm (Zaw rfl hL hM fun r => Zax rfl) rfl hb args dep n h4 cs' v (h5 std rfl)
theorem w3 {f : FuncId} {L : List (FuncId × (List AV → Option AV))} {M : List (FuncId × (List AV → List AV → Option (List AV × AV)))} {dep n : Nat} {cs args : List AV} {cs' : List Value} {v : Value} (h : ∀ m' O, m' = cs' → O = std → ∃ fn c, Tryz.prog.funcs[f]? = some fn ∧ fn.body = some c ∧ ZaB c = true ∧ args.length + 1 ≤ fn.ntmps ∧ (seg (mkXR O L M []) n [.code c] (ZaY dep fn.ntmps (.ptr 0 0 :: Zbo args) [cs])).holds (AnsM (mkXR O L M []) fn.results.toList v m')) : ZeE f L M dep n cs args cs' v := by
 obtain ⟨fn, c, h1, h2, h3, h4, h5⟩ := h cs' std rfl rfl
 refine ⟨fn, c, h1, h2, h3, h4, fun O hO => ?_⟩
 obtain ⟨fn', c', h1', h2', h3', h4', h5'⟩ := h cs' O rfl hO
 rw [h1] at h1'
 injection h1' with h1'
 subst h1'
 rw [h2] at h2'
 injection h2' with h2'
 subst h2'
 exact h5'
theorem Zcc {cs : List AV} {c : S54} (h : dC (.agg cs) = some c) (R : Nat → Row) : AV.vs R cs = AV.vs (ZZ []) (ZaE (clA c)) ∧ cs.length = 10 := by
 have h1 := dC_v R h
 have h2 : AV.vs R cs = AV.vs R (ZaE (clA c)) := by
  have : (Value.agg (AV.vs R cs).toArray) = .agg (AV.vs R (ZaE (clA c))).toArray := h1
  injection this with this
  simpa using congrArg Array.toList this
 refine ⟨h2.trans rfl, ?_⟩
 rw [← Zbz R cs, h2]
 rfl
theorem ZaG {S : Nat → Prop} {w : World} {r : Row} (h : ZaV (ZZ [r]) S w 0) : ∀ i, ZaV (ZZ [r]) S w i
 | 0 => h
 | i + 1 => Zax rfl
def ZcA : List (FuncId × (List AV → Option (List Int × (AV → AV)))) → DT
 | [], _ => none
 | (i, g) :: l, f => if i == f then some g else ZcA l f
structure FnD (f : FuncId) (g : Nat → List Int → List AV → Option (List Int × (AV → AV))) : Prop where
 fn : ∃ fn, Tryz.prog.funcs[f]? = some fn ∧ (fn.name == "runtime.NumGoroutine") = false ∧ fn.body.isSome = true
 run : ∀ R r A c l L o, R r = rowI A c l → l.length ≤ c → g r l L = some o → ∀ w, (Kd.int .i64).C w A l.length l → Calls Tryz.prog f (AV.vs R L).toArray w fun e w' => ∃ a k c, e = .returned ((o.2 (.slc a k c)).v R) ∧ (Kd.int .i64).R 3 w' w.heap.size (fun _ => True) (.slice a k c) o.1 ∧ Below w.heap.size w w'
theorem R_slice {d : Kd Int} {e : Nat} {w : World} {base : Nat} {ok : Nat → Prop} {v : Value} {xs : List Int} (h : d.R e w base ok v xs) : ∃ a k c, v = .slice a k c := by
 obtain ⟨-, inner, ho, -⟩ := h
 rcases ho.2 with ⟨rfl, -⟩ | ⟨g, cap, cur, rfl, -⟩
 ·exact ⟨_, _, _, rfl⟩
 ·exact ⟨_, _, _, rfl⟩
def AnsK (X : Cx) (rs : List ResultVar) (v : Value) (nt k : Nat) (I : Prop) (KK : List KI) (l : List (Nat × Slot)) (b : List (List AV)) : Leaf → Prop
 | .fin st => match Zbb X st rs with
   | some u => u.v X.R = v
   | none => False
 | .stop K st => K = KK ∧ (0 < k ∧ I ∧ (st.n = nt ∧ (Zet st.t l ∧ ZeL b st.b)))
 | _ => False
def AnsL (X : Cx) (rs : List ResultVar) (v : Value) (dep nt n N : Nat) (l : Nat → List (Nat × Slot)) (b : Nat → List (List AV)) (I : Nat → Prop) (k : Nat) : Leaf → Prop
 | .fin st => match Zbb X st rs with
   | some u => u.v X.R = v
   | none => False
 | .stop (.code (.loop c) :: K) st => (st.n = nt ∧ (Zet st.t (l N) ∧ ZeL (b N) st.b)) ∧ (I N ∧ (k < N → I (k + 1) → (seg X n (.code c :: .mk k c :: K) (St.of dep nt (l (k + 1)) (b (k + 1)))).holds (AnsK X rs v nt k (I k) (.mk k c :: K) (l k) (b k))))
 | _ => False
theorem Zep {P : Program} {X : Cx} {d1 : Nat → Nat} {w : World} {fn : Func} {v : Value} {st : St} (hX : CxOk P X d1 0 w) (h : match Zbb X st fn.results.toList with
 | some u => u.v X.R = v
 | none => False) : Owes P X d1 0 w (bodyPost P fn fun e w' => e = .returned v ∧ Below w.heap.size w w') (.fin st) := by
 intro _ d a w' hR hr
 obtain ⟨u, hu, rfl⟩ : ∃ u, Zbb X st fn.results.toList = some u ∧ u.v X.R = v := by
  split at h
  ·rename_i u hu
   exact ⟨u, hu, h⟩
  ·exact h.elim
 have e := Za6 hX hR hr hu
 have : a.defers = [] ∧ ∃ v, (results fn a.tmps).run P w' = .ok v w' ∧ (Ending.returned v = .returned (u.v X.R) ∧ Below w.heap.size w w') :=
  ⟨hR.defers, _, e, rfl, hr.upd.below (fun k ⟨i, hi, _⟩ => by omega)⟩
 exact ⟨this, this⟩
theorem Zbd {P : Program} {X : Cx} {d1 : Nat → Nat} {w : World} {f : FuncId} {fn : Func} {c : Code} (hf : P.funcs[f]? = some fn) (hb : fn.body = some c) (hok : ZaB c = true) (hm : P.follows .mixedOrders = true) (hX : CxOk P X d1 0 w) (args : List AV) (dep n : Nat) (hn : args.length ≤ fn.ntmps) (v : Value) (N : Nat) (hN : 0 < N) (l : Nat → List (Nat × Slot)) (b : Nat → List (List AV)) (hpt : ∀ k, ptrB (b k).length (l k) = true) (I : Nat → Prop)
 (h : ∀ k, (seg X n [.code c] (ZaY dep fn.ntmps (Zbo args) [])).holds (AnsL X fn.results.toList v dep fn.ntmps n N l b I k)) : Calls P f (AV.vs X.R args).toArray w fun e w' => e = .returned v ∧ Below w.heap.size w w' := by
 refine ZaD hf hb hok hm hX args dep n hn ?_
 refine Zbh _ (fun lf hl hk d a w' hR hr => ?_) (Zdw _ h)
 cases lf with
 | stopS => exact (hl 0).elim
 | fin st => exact Zep hX (by simpa only [AnsL] using hl 0) hk d a w' hR hr
 | stop KK st =>
   match KK, hl, hk with
   | .code (.loop c) :: K, hl, hk =>
     have h0 := (hl 0).1
     refine ZaT N ?_
     refine Zfu Zag hm hX (c := c) (K := K) ⟨hk.1, hk.2⟩ dep fn.ntmps n l b (fun k => ⟨hpt k, Nat.zero_le _⟩) N I (fun k hkN hI => ?_) N hN (Nat.le_refl _) (hl 0).2.1 st d a w' h0 hR hr
     refine Zbh _ (fun lf hlf => ?_) ((hl k).2.2 hkN hI)
     cases lf with
     | stopS => exact hlf.elim
     | fin st => exact .inr (Zep hX (by simpa only [AnsK] using hlf))
     | stop KK st =>
       obtain ⟨rfl, h1, h0, h2⟩ := hlf
       exact .inl ⟨st, rfl, h1, h0, h2⟩
   | [], hl, hk => exact (hl 0).elim
   | .code .skip :: _, hl, hk => exact (hl 0).elim
   | .code (.seq ..) :: _, hl, hk => exact (hl 0).elim
   | .code (.region ..) :: _, hl, hk => exact (hl 0).elim
   | .code (.cond ..) :: _, hl, hk => exact (hl 0).elim
   | .code (.block ..) :: _, hl, hk => exact (hl 0).elim
   | .code (.exit ..) :: _, hl, hk => exact (hl 0).elim
   | .code (.goto ..) :: _, hl, hk => exact (hl 0).elim
   | .code .ret :: _, hl, hk => exact (hl 0).elim
   | .code (.scope ..) :: _, hl, hk => exact (hl 0).elim
   | .code (.label ..) :: _, hl, hk => exact (hl 0).elim
   | .code (.refuse ..) :: _, hl, hk => exact (hl 0).elim
   | .code (.rangeFunc ..) :: _, hl, hk => exact (hl 0).elim
   | .blk _ :: _, hl, hk => exact (hl 0).elim
   | .mk _ _ :: _, hl, hk => exact (hl 0).elim
   | .ops .. :: _, hl, hk => exact (hl 0).elim
end Go.Proofs.YtgghglocfdcegaaGreat.Xec
namespace Go.Proofs.YtgghglocfdcegaaGreat.Xec
theorem nt_ : (∀ b : Bool, ((!b) = true) = (b = false)) ∧ (∀ b : Bool, ((!b) = false) = (b = true)) ∧ (∀ (p : Prop) [Decidable p], (decide p = true) = p) ∧ (∀ (p : Prop) [Decidable p], (decide p = false) ↔ ¬p) ∧ (∀ (α : Type) [BEq α] [LawfulBEq α] (a b : α), (a == b) = true ↔ a = b) ∧ (∀ (α : Type) [BEq α] [LawfulBEq α] (a b : α), (a == b) = false ↔ a ≠ b) ∧ (∀ (α : Type) [BEq α] [LawfulBEq α] (a b : α), (a != b) = true ↔ a ≠ b) ∧ (∀ (α : Type) [BEq α] [LawfulBEq α] (a b : α), (a != b) = false ↔ a = b) ∧ (∀ (α : Type) (a b : α), (a ≠ b) = ¬(a = b)) :=
 ⟨fun b => by simp, fun b => by simp, fun p _ => by simp, fun p _ => by simp, fun α _ _ a b => beq_iff_eq, fun α _ _ a b => beq_eq_false_iff_ne, fun α _ _ a b => bne_iff_ne, fun α _ _ a b => bne_eq_false_iff_eq, fun α a b => rfl⟩
theorem nv_ : (∀ (α β : Type) (a : α) (f : α → Option β), (some a).bind f = f a) ∧ (∀ (α : Type) (a b : α), (some a).getD b = a) ∧ (∀ (a b : Int), a > b ↔ b < a) ∧ (∀ (a b : Int), a ≥ b ↔ b ≤ a) ∧ (∀ (α : Type) {_ : Decidable True} (a b : α), ite True a b = a) ∧ (∀ (α : Type) {_ : Decidable False} (a b : α), ite False a b = b) ∧ ((false = true) = False) ∧ (∀ {_ : Decidable True}, decide True = true) ∧ (∀ {_ : Decidable False}, decide False = false) :=
 ⟨fun α β a f => rfl, fun α a b => rfl, fun a b => Iff.rfl, fun a b => Iff.rfl, fun α _ a b => if_pos trivial, fun α _ a b => if_neg (fun h => h), by simp, decide_eq_true trivial, decide_eq_false (fun h => h)⟩
abbrev TA := Int × Int × Int × Int × Bool
abbrev TC := Int × Int × Int × Int × Int × Int × Int × Int × Int × Bool
abbrev TL := List Int × Int × Int × Int × Int × Int × Int × Int × Int × Int × Bool × Bool
end Go.Proofs.YtgghglocfdcegaaGreat.Xec
