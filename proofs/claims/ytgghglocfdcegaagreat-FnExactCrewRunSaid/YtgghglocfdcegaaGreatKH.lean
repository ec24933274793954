/- Part H of the proof of FnExactCrewStep and FnExactCrewRun (wip/xec, pack.py). No condition. -/
import Derived.Test.YtgghglocfdcegaaGreatKT1
import Derived.Test.YtgghglocfdcegaaGreatKT2
import Derived.Test.YtgghglocfdcegaaGreatKT3
import Derived.Test.YtgghglocfdcegaaGreatKT4
import Derived.Test.YtgghglocfdcegaaGreatKT5
import Derived.Test.YtgghglocfdcegaaGreatKT6
import Derived.Test.YtgghglocfdcegaaGreatKF
namespace Go.Proofs.YtgghglocfdcegaaGreat.Xec
open Go Go.RowKit Go.Proofs.YtgghglocfdcegaaGreat.PFnExactCrewRun Go.Proofs.YtgghglocfdcegaaGreatW.PrintWords
set_option linter.unusedVariables false
set_option linter.unusedSimpArgs false
set_option maxRecDepth 100000
set_option maxHeartbeats 16000000
def Zd.D (r : Nat) (l : List Int) : List AV → Option (List Int × (AV → AV))
 | [y0, .agg [.sl q], y2] => if q == r then (i1 y0).bind fun a0 => (dC y2).bind fun d => some ((Zd.F a0 l d.f0 d.f1 d.f2 d.f3 d.f4 d.f5 d.f6 d.f7 d.f8 d.f9).1, fun m => .tup [.agg [m], .agg [.int (Zd.F a0 l d.f0 d.f1 d.f2 d.f3 d.f4 d.f5 d.f6 d.f7 d.f8 d.f9).2.1, .int (Zd.F a0 l d.f0 d.f1 d.f2 d.f3 d.f4 d.f5 d.f6 d.f7 d.f8 d.f9).2.2.1, .int (Zd.F a0 l d.f0 d.f1 d.f2 d.f3 d.f4 d.f5 d.f6 d.f7 d.f8 d.f9).2.2.2.1, .int (Zd.F a0 l d.f0 d.f1 d.f2 d.f3 d.f4 d.f5 d.f6 d.f7 d.f8 d.f9).2.2.2.2.1, .int (Zd.F a0 l d.f0 d.f1 d.f2 d.f3 d.f4 d.f5 d.f6 d.f7 d.f8 d.f9).2.2.2.2.2.1, .int (Zd.F a0 l d.f0 d.f1 d.f2 d.f3 d.f4 d.f5 d.f6 d.f7 d.f8 d.f9).2.2.2.2.2.2.1, .int (Zd.F a0 l d.f0 d.f1 d.f2 d.f3 d.f4 d.f5 d.f6 d.f7 d.f8 d.f9).2.2.2.2.2.2.2.1, .int (Zd.F a0 l d.f0 d.f1 d.f2 d.f3 d.f4 d.f5 d.f6 d.f7 d.f8 d.f9).2.2.2.2.2.2.2.2.1, .int (Zd.F a0 l d.f0 d.f1 d.f2 d.f3 d.f4 d.f5 d.f6 d.f7 d.f8 d.f9).2.2.2.2.2.2.2.2.2.1, .bool (Zd.F a0 l d.f0 d.f1 d.f2 d.f3 d.f4 d.f5 d.f6 d.f7 d.f8 d.f9).2.2.2.2.2.2.2.2.2.2.1], .bool (Zd.F a0 l d.f0 d.f1 d.f2 d.f3 d.f4 d.f5 d.f6 d.f7 d.f8 d.f9).2.2.2.2.2.2.2.2.2.2.2]) else none
 | _ => none
theorem Zd.fnD : FnD 44 Zd.D := by
 refine ⟨⟨_, Tryz.func44, rfl, rfl⟩, fun R r A c l L o hR hc h w hC => ?_⟩
 unfold Zd.D at h
 split at h
 ·rename_i y0 q y2
  split at h
  ·rename_i hq
   rw [beq_iff_eq] at hq
   subst hq
   obtain ⟨a0, e0, h⟩ := Option.bind_eq_some_iff.1 h
   obtain ⟨d, e2, h⟩ := Option.bind_eq_some_iff.1 h
   injection h with h
   subst h
   have := (Zd.walk A c a0 l d.f0 d.f1 d.f2 d.f3 d.f4 d.f5 d.f6 d.f7 d.f8 d.f9).calls (w := w) (all_cons ZP.fn (all_cons Zm.fn (all_cons Zv.fn (all_cons ZQ.fn (all_cons Zn.fn (all_cons Zac.fn ZW)))))) Zap (ZaG (ZaI rfl hC)) (ZaQ Zci.fn rfl hc hC ZbD)
   have ea : AV.vs R [y0, .agg [.sl q], y2] = AV.vs (ZZ [rowI A c l]) [.int a0, .agg [.sl 0], clA d] := by
    simp only [AV.vs, AV.v, hR, i1_v R e0, dC_v R e2, clA]
    rfl
   rw [ea]
   refine this.mono fun e w' ⟨v, h1, h2, h3⟩ => ?_
   obtain ⟨A', k', c', rfl⟩ := R_slice h2
   exact ⟨A', k', c', h1, h2, h3⟩
  ·cases h
 ·cases h
def Zg.D (r : Nat) (l : List Int) : List AV → Option (List Int × (AV → AV))
 | [y0, .agg [.sl q], y2] => if q == r then (i1 y0).bind fun a0 => (dC y2).bind fun d => some ((Zg.F a0 l d.f0 d.f1 d.f2 d.f3 d.f4 d.f5 d.f6 d.f7 d.f8 d.f9).1, fun m => .tup [.agg [m], .agg [.int (Zg.F a0 l d.f0 d.f1 d.f2 d.f3 d.f4 d.f5 d.f6 d.f7 d.f8 d.f9).2.1, .int (Zg.F a0 l d.f0 d.f1 d.f2 d.f3 d.f4 d.f5 d.f6 d.f7 d.f8 d.f9).2.2.1, .int (Zg.F a0 l d.f0 d.f1 d.f2 d.f3 d.f4 d.f5 d.f6 d.f7 d.f8 d.f9).2.2.2.1, .int (Zg.F a0 l d.f0 d.f1 d.f2 d.f3 d.f4 d.f5 d.f6 d.f7 d.f8 d.f9).2.2.2.2.1, .int (Zg.F a0 l d.f0 d.f1 d.f2 d.f3 d.f4 d.f5 d.f6 d.f7 d.f8 d.f9).2.2.2.2.2.1, .int (Zg.F a0 l d.f0 d.f1 d.f2 d.f3 d.f4 d.f5 d.f6 d.f7 d.f8 d.f9).2.2.2.2.2.2.1, .int (Zg.F a0 l d.f0 d.f1 d.f2 d.f3 d.f4 d.f5 d.f6 d.f7 d.f8 d.f9).2.2.2.2.2.2.2.1, .int (Zg.F a0 l d.f0 d.f1 d.f2 d.f3 d.f4 d.f5 d.f6 d.f7 d.f8 d.f9).2.2.2.2.2.2.2.2.1, .int (Zg.F a0 l d.f0 d.f1 d.f2 d.f3 d.f4 d.f5 d.f6 d.f7 d.f8 d.f9).2.2.2.2.2.2.2.2.2.1, .bool (Zg.F a0 l d.f0 d.f1 d.f2 d.f3 d.f4 d.f5 d.f6 d.f7 d.f8 d.f9).2.2.2.2.2.2.2.2.2.2.1], .bool (Zg.F a0 l d.f0 d.f1 d.f2 d.f3 d.f4 d.f5 d.f6 d.f7 d.f8 d.f9).2.2.2.2.2.2.2.2.2.2.2]) else none
 | _ => none
theorem Zg.fnD : FnD 84 Zg.D := by
 refine ⟨⟨_, Tryz.func84, rfl, rfl⟩, fun R r A c l L o hR hc h w hC => ?_⟩
 unfold Zg.D at h
 split at h
 ·rename_i y0 q y2
  split at h
  ·rename_i hq
   rw [beq_iff_eq] at hq
   subst hq
   obtain ⟨a0, e0, h⟩ := Option.bind_eq_some_iff.1 h
   obtain ⟨d, e2, h⟩ := Option.bind_eq_some_iff.1 h
   injection h with h
   subst h
   have := (Zg.walk A c a0 l d.f0 d.f1 d.f2 d.f3 d.f4 d.f5 d.f6 d.f7 d.f8 d.f9).calls (w := w) (all_cons impl_within.fn (all_cons Zab.fn (all_cons Zi.fn (all_cons Zaq.fn ZW)))) (ZaW Zb.me Zap) (ZaG (ZaI rfl hC)) (ZaQ Zcs.fn rfl hc hC ZbD)
   have ea : AV.vs R [y0, .agg [.sl q], y2] = AV.vs (ZZ [rowI A c l]) [.int a0, .agg [.sl 0], clA d] := by
    simp only [AV.vs, AV.v, hR, i1_v R e0, dC_v R e2, clA]
    rfl
   rw [ea]
   refine this.mono fun e w' ⟨v, h1, h2, h3⟩ => ?_
   obtain ⟨A', k', c', rfl⟩ := R_slice h2
   exact ⟨A', k', c', h1, h2, h3⟩
  ·cases h
 ·cases h
def Ze.D (r : Nat) (l : List Int) : List AV → Option (List Int × (AV → AV))
 | [y0, .agg [.sl q], y2] => if q == r then (i1 y0).bind fun a0 => (dC y2).bind fun d => some ((Ze.F a0 l d.f0 d.f1 d.f2 d.f3 d.f4 d.f5 d.f6 d.f7 d.f8 d.f9).1, fun m => .tup [.agg [m], .agg [.int (Ze.F a0 l d.f0 d.f1 d.f2 d.f3 d.f4 d.f5 d.f6 d.f7 d.f8 d.f9).2.1, .int (Ze.F a0 l d.f0 d.f1 d.f2 d.f3 d.f4 d.f5 d.f6 d.f7 d.f8 d.f9).2.2.1, .int (Ze.F a0 l d.f0 d.f1 d.f2 d.f3 d.f4 d.f5 d.f6 d.f7 d.f8 d.f9).2.2.2.1, .int (Ze.F a0 l d.f0 d.f1 d.f2 d.f3 d.f4 d.f5 d.f6 d.f7 d.f8 d.f9).2.2.2.2.1, .int (Ze.F a0 l d.f0 d.f1 d.f2 d.f3 d.f4 d.f5 d.f6 d.f7 d.f8 d.f9).2.2.2.2.2.1, .int (Ze.F a0 l d.f0 d.f1 d.f2 d.f3 d.f4 d.f5 d.f6 d.f7 d.f8 d.f9).2.2.2.2.2.2.1, .int (Ze.F a0 l d.f0 d.f1 d.f2 d.f3 d.f4 d.f5 d.f6 d.f7 d.f8 d.f9).2.2.2.2.2.2.2.1, .int (Ze.F a0 l d.f0 d.f1 d.f2 d.f3 d.f4 d.f5 d.f6 d.f7 d.f8 d.f9).2.2.2.2.2.2.2.2.1, .int (Ze.F a0 l d.f0 d.f1 d.f2 d.f3 d.f4 d.f5 d.f6 d.f7 d.f8 d.f9).2.2.2.2.2.2.2.2.2.1, .bool (Ze.F a0 l d.f0 d.f1 d.f2 d.f3 d.f4 d.f5 d.f6 d.f7 d.f8 d.f9).2.2.2.2.2.2.2.2.2.2.1], .bool (Ze.F a0 l d.f0 d.f1 d.f2 d.f3 d.f4 d.f5 d.f6 d.f7 d.f8 d.f9).2.2.2.2.2.2.2.2.2.2.2]) else none
 | _ => none
theorem Ze.fnD : FnD 45 Ze.D := by
 refine ⟨⟨_, Tryz.func45, rfl, rfl⟩, fun R r A c l L o hR hc h w hC => ?_⟩
 unfold Ze.D at h
 split at h
 ·rename_i y0 q y2
  split at h
  ·rename_i hq
   rw [beq_iff_eq] at hq
   subst hq
   obtain ⟨a0, e0, h⟩ := Option.bind_eq_some_iff.1 h
   obtain ⟨d, e2, h⟩ := Option.bind_eq_some_iff.1 h
   injection h with h
   subst h
   have := (Ze.walk A c a0 l d.f0 d.f1 d.f2 d.f3 d.f4 d.f5 d.f6 d.f7 d.f8 d.f9).calls (w := w) (all_cons Zm.fn (all_cons Zt.fn (all_cons Zj.fn ZW))) Zap (ZaG (ZaI rfl hC)) (ZaQ Zci.fn rfl hc hC ZbD)
   have ea : AV.vs R [y0, .agg [.sl q], y2] = AV.vs (ZZ [rowI A c l]) [.int a0, .agg [.sl 0], clA d] := by
    simp only [AV.vs, AV.v, hR, i1_v R e0, dC_v R e2, clA]
    rfl
   rw [ea]
   refine this.mono fun e w' ⟨v, h1, h2, h3⟩ => ?_
   obtain ⟨A', k', c', rfl⟩ := R_slice h2
   exact ⟨A', k', c', h1, h2, h3⟩
  ·cases h
 ·cases h
def Zc.D (r : Nat) (l : List Int) : List AV → Option (List Int × (AV → AV))
 | [y0, .agg [.sl q], y2] => if q == r then (i1 y0).bind fun a0 => (dC y2).bind fun d => some ((Zc.F a0 l d.f0 d.f1 d.f2 d.f3 d.f4 d.f5 d.f6 d.f7 d.f8 d.f9).1, fun m => .tup [.agg [m], .agg [.int (Zc.F a0 l d.f0 d.f1 d.f2 d.f3 d.f4 d.f5 d.f6 d.f7 d.f8 d.f9).2.1, .int (Zc.F a0 l d.f0 d.f1 d.f2 d.f3 d.f4 d.f5 d.f6 d.f7 d.f8 d.f9).2.2.1, .int (Zc.F a0 l d.f0 d.f1 d.f2 d.f3 d.f4 d.f5 d.f6 d.f7 d.f8 d.f9).2.2.2.1, .int (Zc.F a0 l d.f0 d.f1 d.f2 d.f3 d.f4 d.f5 d.f6 d.f7 d.f8 d.f9).2.2.2.2.1, .int (Zc.F a0 l d.f0 d.f1 d.f2 d.f3 d.f4 d.f5 d.f6 d.f7 d.f8 d.f9).2.2.2.2.2.1, .int (Zc.F a0 l d.f0 d.f1 d.f2 d.f3 d.f4 d.f5 d.f6 d.f7 d.f8 d.f9).2.2.2.2.2.2.1, .int (Zc.F a0 l d.f0 d.f1 d.f2 d.f3 d.f4 d.f5 d.f6 d.f7 d.f8 d.f9).2.2.2.2.2.2.2.1, .int (Zc.F a0 l d.f0 d.f1 d.f2 d.f3 d.f4 d.f5 d.f6 d.f7 d.f8 d.f9).2.2.2.2.2.2.2.2.1, .int (Zc.F a0 l d.f0 d.f1 d.f2 d.f3 d.f4 d.f5 d.f6 d.f7 d.f8 d.f9).2.2.2.2.2.2.2.2.2.1, .bool (Zc.F a0 l d.f0 d.f1 d.f2 d.f3 d.f4 d.f5 d.f6 d.f7 d.f8 d.f9).2.2.2.2.2.2.2.2.2.2.1], .bool (Zc.F a0 l d.f0 d.f1 d.f2 d.f3 d.f4 d.f5 d.f6 d.f7 d.f8 d.f9).2.2.2.2.2.2.2.2.2.2.2]) else none
 | _ => none
theorem Zc.fnD : FnD 85 Zc.D := by
 refine ⟨⟨_, Tryz.func85, rfl, rfl⟩, fun R r A c l L o hR hc h w hC => ?_⟩
 unfold Zc.D at h
 split at h
 ·rename_i y0 q y2
  split at h
  ·rename_i hq
   rw [beq_iff_eq] at hq
   subst hq
   obtain ⟨a0, e0, h⟩ := Option.bind_eq_some_iff.1 h
   obtain ⟨d, e2, h⟩ := Option.bind_eq_some_iff.1 h
   injection h with h
   subst h
   have := (Zc.walk A c a0 l d.f0 d.f1 d.f2 d.f3 d.f4 d.f5 d.f6 d.f7 d.f8 d.f9).calls (w := w) (all_cons ZU.fn ZW) (ZaW Zb.me Zap) (ZaG (ZaI rfl hC)) (ZaQ Zcs.fn rfl hc hC ZbD)
   have ea : AV.vs R [y0, .agg [.sl q], y2] = AV.vs (ZZ [rowI A c l]) [.int a0, .agg [.sl 0], clA d] := by
    simp only [AV.vs, AV.v, hR, i1_v R e0, dC_v R e2, clA]
    rfl
   rw [ea]
   refine this.mono fun e w' ⟨v, h1, h2, h3⟩ => ?_
   obtain ⟨A', k', c', rfl⟩ := R_slice h2
   exact ⟨A', k', c', h1, h2, h3⟩
  ·cases h
 ·cases h
def Zo.D (r : Nat) (l : List Int) : List AV → Option (List Int × (AV → AV))
 | [y0, .agg [.sl q], y2] => if q == r then (i1 y0).bind fun a0 => (dC y2).bind fun d => some ((Zo.F a0 l d.f0 d.f1 d.f2 d.f3 d.f4 d.f5 d.f6 d.f7 d.f8 d.f9).1, fun m => .tup [.agg [m], .agg [.int (Zo.F a0 l d.f0 d.f1 d.f2 d.f3 d.f4 d.f5 d.f6 d.f7 d.f8 d.f9).2.1, .int (Zo.F a0 l d.f0 d.f1 d.f2 d.f3 d.f4 d.f5 d.f6 d.f7 d.f8 d.f9).2.2.1, .int (Zo.F a0 l d.f0 d.f1 d.f2 d.f3 d.f4 d.f5 d.f6 d.f7 d.f8 d.f9).2.2.2.1, .int (Zo.F a0 l d.f0 d.f1 d.f2 d.f3 d.f4 d.f5 d.f6 d.f7 d.f8 d.f9).2.2.2.2.1, .int (Zo.F a0 l d.f0 d.f1 d.f2 d.f3 d.f4 d.f5 d.f6 d.f7 d.f8 d.f9).2.2.2.2.2.1, .int (Zo.F a0 l d.f0 d.f1 d.f2 d.f3 d.f4 d.f5 d.f6 d.f7 d.f8 d.f9).2.2.2.2.2.2.1, .int (Zo.F a0 l d.f0 d.f1 d.f2 d.f3 d.f4 d.f5 d.f6 d.f7 d.f8 d.f9).2.2.2.2.2.2.2.1, .int (Zo.F a0 l d.f0 d.f1 d.f2 d.f3 d.f4 d.f5 d.f6 d.f7 d.f8 d.f9).2.2.2.2.2.2.2.2.1, .int (Zo.F a0 l d.f0 d.f1 d.f2 d.f3 d.f4 d.f5 d.f6 d.f7 d.f8 d.f9).2.2.2.2.2.2.2.2.2.1, .bool (Zo.F a0 l d.f0 d.f1 d.f2 d.f3 d.f4 d.f5 d.f6 d.f7 d.f8 d.f9).2.2.2.2.2.2.2.2.2.2.1], .bool (Zo.F a0 l d.f0 d.f1 d.f2 d.f3 d.f4 d.f5 d.f6 d.f7 d.f8 d.f9).2.2.2.2.2.2.2.2.2.2.2]) else none
 | _ => none
theorem Zo.fnD : FnD 46 Zo.D := by
 refine ⟨⟨_, Tryz.func46, rfl, rfl⟩, fun R r A c l L o hR hc h w hC => ?_⟩
 unfold Zo.D at h
 split at h
 ·rename_i y0 q y2
  split at h
  ·rename_i hq
   rw [beq_iff_eq] at hq
   subst hq
   obtain ⟨a0, e0, h⟩ := Option.bind_eq_some_iff.1 h
   obtain ⟨d, e2, h⟩ := Option.bind_eq_some_iff.1 h
   injection h with h
   subst h
   have := (Zo.walk A c a0 l d.f0 d.f1 d.f2 d.f3 d.f4 d.f5 d.f6 d.f7 d.f8 d.f9).calls (w := w) (all_cons ZV.fn (all_cons Zai.fn (all_cons Zz.fn (all_cons ZS.fn (all_cons Zy.fn (all_cons ZR.fn ZW)))))) Zap (ZaG (ZaI rfl hC)) (ZaQ Zci.fn rfl hc hC ZbD)
   have ea : AV.vs R [y0, .agg [.sl q], y2] = AV.vs (ZZ [rowI A c l]) [.int a0, .agg [.sl 0], clA d] := by
    simp only [AV.vs, AV.v, hR, i1_v R e0, dC_v R e2, clA]
    rfl
   rw [ea]
   refine this.mono fun e w' ⟨v, h1, h2, h3⟩ => ?_
   obtain ⟨A', k', c', rfl⟩ := R_slice h2
   exact ⟨A', k', c', h1, h2, h3⟩
  ·cases h
 ·cases h
def Zh.D (r : Nat) (l : List Int) : List AV → Option (List Int × (AV → AV))
 | [y0, .agg [.sl q], y2] => if q == r then (i1 y0).bind fun a0 => (dC y2).bind fun d => some ((Zh.F a0 l d.f0 d.f1 d.f2 d.f3 d.f4 d.f5 d.f6 d.f7 d.f8 d.f9).1, fun m => .tup [.agg [m], .agg [.int (Zh.F a0 l d.f0 d.f1 d.f2 d.f3 d.f4 d.f5 d.f6 d.f7 d.f8 d.f9).2.1, .int (Zh.F a0 l d.f0 d.f1 d.f2 d.f3 d.f4 d.f5 d.f6 d.f7 d.f8 d.f9).2.2.1, .int (Zh.F a0 l d.f0 d.f1 d.f2 d.f3 d.f4 d.f5 d.f6 d.f7 d.f8 d.f9).2.2.2.1, .int (Zh.F a0 l d.f0 d.f1 d.f2 d.f3 d.f4 d.f5 d.f6 d.f7 d.f8 d.f9).2.2.2.2.1, .int (Zh.F a0 l d.f0 d.f1 d.f2 d.f3 d.f4 d.f5 d.f6 d.f7 d.f8 d.f9).2.2.2.2.2.1, .int (Zh.F a0 l d.f0 d.f1 d.f2 d.f3 d.f4 d.f5 d.f6 d.f7 d.f8 d.f9).2.2.2.2.2.2.1, .int (Zh.F a0 l d.f0 d.f1 d.f2 d.f3 d.f4 d.f5 d.f6 d.f7 d.f8 d.f9).2.2.2.2.2.2.2.1, .int (Zh.F a0 l d.f0 d.f1 d.f2 d.f3 d.f4 d.f5 d.f6 d.f7 d.f8 d.f9).2.2.2.2.2.2.2.2.1, .int (Zh.F a0 l d.f0 d.f1 d.f2 d.f3 d.f4 d.f5 d.f6 d.f7 d.f8 d.f9).2.2.2.2.2.2.2.2.2.1, .bool (Zh.F a0 l d.f0 d.f1 d.f2 d.f3 d.f4 d.f5 d.f6 d.f7 d.f8 d.f9).2.2.2.2.2.2.2.2.2.2.1], .bool (Zh.F a0 l d.f0 d.f1 d.f2 d.f3 d.f4 d.f5 d.f6 d.f7 d.f8 d.f9).2.2.2.2.2.2.2.2.2.2.2]) else none
 | _ => none
theorem Zh.fnD : FnD 86 Zh.D := by
 refine ⟨⟨_, Tryz.func86, rfl, rfl⟩, fun R r A c l L o hR hc h w hC => ?_⟩
 unfold Zh.D at h
 split at h
 ·rename_i y0 q y2
  split at h
  ·rename_i hq
   rw [beq_iff_eq] at hq
   subst hq
   obtain ⟨a0, e0, h⟩ := Option.bind_eq_some_iff.1 h
   obtain ⟨d, e2, h⟩ := Option.bind_eq_some_iff.1 h
   injection h with h
   subst h
   have := (Zh.walk A c a0 l d.f0 d.f1 d.f2 d.f3 d.f4 d.f5 d.f6 d.f7 d.f8 d.f9).calls (w := w) (all_cons Zr.fn (all_cons Za.fn ZW)) (ZaW Zb.me (ZaW Zk.me (ZaW Zf.me Zap))) (ZaG (ZaI rfl hC)) (ZaQ Zcs.fn rfl hc hC ZbD)
   have ea : AV.vs R [y0, .agg [.sl q], y2] = AV.vs (ZZ [rowI A c l]) [.int a0, .agg [.sl 0], clA d] := by
    simp only [AV.vs, AV.v, hR, i1_v R e0, dC_v R e2, clA]
    rfl
   rw [ea]
   refine this.mono fun e w' ⟨v, h1, h2, h3⟩ => ?_
   obtain ⟨A', k', c', rfl⟩ := R_slice h2
   exact ⟨A', k', c', h1, h2, h3⟩
  ·cases h
 ·cases h
theorem ZbC.walk (A : Option Addr) (c : Nat) (wh sz : Int) (l : List Int) (thr : Value) (ck : Int) (x0 x1 x2 x3 x4 x5 x6 x7 x8 : Int) (x9 : Bool) : Zb1 54 [] [] [(84, Zg.D 0 l), (85, Zc.D 0 l), (86, Zh.D 0 l)] [rowI A c l] 6 900 [.agg [.int wh, .int sz, .sl 0, .raw thr, .int ck], .agg [.int x0, .int x1, .int x2, .int x3, .int x4, .int x5, .int x6, .int x7, .int x8, .bool x9]] (stS Zg.F Zc.F Zh.F wh sz l x0 x1 x2 x3 x4 x5 x6 x7 x8 x9).m (Tv (stS Zg.F Zc.F Zh.F wh sz l x0 x1 x2 x3 x4 x5 x6 x7 x8 x9)) := by
 refine w2 fun m' E' O a k c' hm' hE hO => ⟨_, _, Tryz.func54, rfl, by kernel_rfl, Nat.le_of_ble_eq_true rfl, ?_⟩
 unfold rowI
 generalize hn : l.length = n0
 generalize hrd : (fun i => [AV.int (rd l i)]) = rd0
 unfold stS at hm' hE
 unfold Zg.D Zc.D Zh.D
 generalize Zg.F = f1 at *
 generalize Zc.F = f2 at *
 generalize Zh.F = f3 at *
 (try cbv)
 repeat' (apply And.intro <;> (try intro h) <;> (try cbv))
 all_goals (subst hO; (try dsimp only [std] at *); (try simp only [beq_iff_eq, beq_eq_false_iff_ne, ne_eq] at *))
 all_goals (subst hE hm'; simp only [if_pos, if_neg, *, not_false_eq_true])
 all_goals first | exact Or.inl ⟨rfl, rfl⟩ | trivial | exact ⟨rfl, trivial⟩ | exact Or.inl ⟨rfl, trivial⟩
theorem ZbC.calls (A : Option Addr) (c : Nat) (wh sz : Int) (l : List Int) (thr : Value) (ck : Int) (x0 x1 x2 x3 x4 x5 x6 x7 x8 : Int) (x9 : Bool) (w : World) (hc : l.length ≤ c) (hC : (Kd.int .i64).C w A l.length l) :
 Calls Tryz.prog 54 #[.agg #[.int .i64 wh, .int .i64 sz, .slice A l.length c, thr, .int .i64 ck], .agg #[.int .i64 x0, .int .i64 x1, .int .i64 x2, .int .i64 x3, .int .i64 x4, .int .i64 x5, .int .i64 x6, .int .i64 x7, .int .i64 x8, .bool x9]] w fun e w' => ∃ v, e = .returned (Tv (stS Zg.F Zc.F Zh.F wh sz l x0 x1 x2 x3 x4 x5 x6 x7 x8 x9) v) ∧ (Kd.int .i64).R 3 w' w.heap.size (fun _ => True) v (stS Zg.F Zc.F Zh.F wh sz l x0 x1 x2 x3 x4 x5 x6 x7 x8 x9).m ∧ Below w.heap.size w w' :=
 (ZbC.walk A c wh sz l thr ck x0 x1 x2 x3 x4 x5 x6 x7 x8 x9).calls (w := w) ZW Zap (ZaG (ZaI rfl hC)) (ZaQ Zg.fnD rfl hc hC (ZaQ Zc.fnD rfl hc hC (ZaQ Zh.fnD rfl hc hC ZbD)))
def AllW (rs : List Row) (w : World) (L : List (FuncId × (List AV → Option AV))) : Prop := ∀ f g, look L f = some g → Zfk f ∧ ∀ l v, g l = some v → ∀ w', Below w.heap.size w w' → Calls Tryz.prog f (AV.vs (ZZ rs) l).toArray w' fun e w2 => e = .returned (v.v (ZZ rs)) ∧ Below w'.heap.size w' w2
theorem Zdc {rs : List Row} {w : World} : AllW rs w [] := fun _ _ h => by cases h
theorem ZbW {rs : List Row} {w : World} {i : FuncId} {g : List AV → Option AV} {L : List (FuncId × (List AV → Option AV))} (hn : Zfk i) (h : ∀ l v, g l = some v → ∀ w', Below w.heap.size w w' → Calls Tryz.prog i (AV.vs (ZZ rs) l).toArray w' fun e w2 => e = .returned (v.v (ZZ rs)) ∧ Below w'.heap.size w' w2) (hL : AllW rs w L) : AllW rs w ((i, g) :: L) := by
 intro f g' hl
 simp only [look] at hl
 split at hl
 ·rename_i he
  injection hl with hl
  subst hl
  rw [beq_iff_eq] at he
  subst he
  exact ⟨hn, h⟩
 ·exact hL f g' hl
theorem Zff {rs : List Row} {w : World} {i : FuncId} {g : List AV → Option AV} {L : List (FuncId × (List AV → Option AV))} (h : Fn i g) (hL : AllW rs w L) : AllW rs w ((i, g) :: L) := ZbW h.fn (fun l v hg w' _ => h.run _ l v hg w') hL
theorem ZcY {O : Ops} (hO : O = std) {rs : List Row} {w : World} {L : List (FuncId × (List AV → Option AV))} (hL : AllW rs w L) {M : List (FuncId × (List AV → List AV → Option (List AV × AV)))} (hM : AllM M) (hr : ∀ r, ZaV (ZZ rs) (Bx (fun _ => 0) 0) w r) : CxOk Tryz.prog (mkXR O L M rs) (fun _ => 0) 0 w :=
 ⟨ZcF, ZcG, hO, hr, fun f g l v h1 h2 => ⟨(hL f g h1).1, fun w' hu => (hL f g h1).2 l v h2 w' (hu.below fun k ⟨i, hi, _⟩ => by omega)⟩, fun f g cs l cs' v h1 h2 => ⟨(hM f g h1).fn, ((hM f g h1).run (ZZ rs) cs l cs' v h2).1, fun w b ty _ => ((hM f g h1).run (ZZ rs) cs l cs' v h2).2 w b ty⟩, fun _ _ _ _ _ h => (by cases h), Zea rs, fun i _ => Zcm rs i, fun _ _ h => Zeb h⟩
theorem Zb1.callsW {f : FuncId} {L : List (FuncId × (List AV → Option AV))} {M : List (FuncId × (List AV → List AV → Option (List AV × AV)))} {D : List (FuncId × (List AV → Option (List Int × (AV → AV))))} {rs : List Row} {dep n : Nat} {args : List AV} {m : List Int} {E : Value → Value} (h : Zb1 f L M D rs dep n args m E) {w : World} (hL : AllW rs w L) (hM : AllM M) (hr : ∀ r, ZaV (ZZ rs) (Bx (fun _ => 0) 0) w r) (hD : DOk Tryz.prog (mkXR std L M rs) (fun _ => 0) 0 w (ZcA D)) : Calls Tryz.prog f (AV.vs (ZZ rs) args).toArray w fun e w' => ∃ v, e = .returned (E v) ∧ (Kd.int .i64).R 3 w' w.heap.size (fun _ => True) v m ∧ Below w.heap.size w w' := by
 obtain ⟨fn, c, h1, h2, h3, h4, h5⟩ := h
 exact ZfT (X := mkXR std L M rs) (d1 := fun _ => 0) h1 h2 h3 hm (ZcY rfl hL hM hr) hD args dep n h4 m E (h5 std rfl)
theorem Zb8 {S : Nat → Prop} {w : World} {a b : Row} (h0 : ZaV (ZZ [a, b]) S w 0) (h1 : ZaV (ZZ [a, b]) S w 1) : ∀ i, ZaV (ZZ [a, b]) S w i
 | 0 => h0
 | 1 => h1
 | i + 2 => Zax rfl
def Cp.g (r : Nat) (l : List Int) : List AV → Option (List Int × (AV → AV))
 | [.agg [.sl q]] => if q == r && decide (l.length < 17592186044416) then some (l, fun m => .agg [m]) else none
 | _ => none
theorem spec_l02Copy.fnD : FnD 41 Cp.g := by
 refine ⟨⟨_, Tryz.func41, rfl, rfl⟩, fun R r A c l L o hR hc h w hC => ?_⟩
 unfold Cp.g at h
 split at h
 ·rename_i q
  split at h
  ·rename_i hq
   simp only [Bool.and_eq_true, beq_iff_eq, decide_eq_true_eq] at hq
   obtain ⟨rfl, hs⟩ := hq
   injection h with h
   subst h
   have e : spec_l02Copy.f l = some l := by
    unfold spec_l02Copy.f
    rw [Option.bind_some, if_pos (by simpa using hs), List.nil_append]
   have := spec_l02Copy.calls A c l l w hC hc e
   simp only [AV.vs, AV.v, hR]
   refine this.mono fun e w' ⟨v, h1, h2, h3⟩ => ?_
   obtain ⟨A', k', c', rfl⟩ := R_slice h2
   exact ⟨A', k', c', h1, h2, h3⟩
  ·cases h
 ·cases h
def Pop.g (pp : Int → Int) : List AV → Option AV
 | [.agg [.sl q, y, .slc a2 n2 c2, .slc a3 n3 c3]] => if q == 1 then (i1 y).bind fun a => some (.int (pp a)) else none
 | _ => none
theorem ZbA.walk (A : Option Addr) (c : Nat) (wh sz : Int) (l : List Int) (thr : Value) (ck : Int) (A1 : Option Addr) (c1 : Nat) (l1 : List S54) (at_ : Int) (A2 : Option Addr) (n2 c2 : Nat) (A3 : Option Addr) (n3 c3 : Nat) (h0 : 0 ≤ at_) (h1 : at_ < l1.length) (hs : l.length < 17592186044416) (pp : Int → Int) : Zb1 23 [(42, Pop.g pp), (43, Zm.g)] [] [(41, Cp.g 0 l), (44, Zd.D 0 l), (45, Ze.D 0 l), (46, Zo.D 0 l)] [rowI A c l, rowC A1 c1 l1] 7 900 [.agg [.int wh, .int sz, .sl 0, .raw thr, .int ck], .agg [.sl 1, .int at_, .slc A2 n2 c2, .slc A3 n3 c3]] (CrS Zm.F (stS Zd.F Ze.F Zo.F wh sz l) l wh (rd_T54 l1 at_) (pp at_)).m (Tv (CrS Zm.F (stS Zd.F Ze.F Zo.F wh sz l) l wh (rd_T54 l1 at_) (pp at_))) := by
 refine w2 fun m' E' O a k c' hm' hE hO => ⟨_, _, Tryz.func23, rfl, by kernel_rfl, Nat.le_of_ble_eq_true rfl, ?_⟩
 have hb : O.inb at_ l1.length = true := by
  subst hO
  show (decide (0 ≤ at_) && decide (at_ < (l1.length : Int))) = true
  simp [h0, h1]
 unfold rowI rowC
 have hs' : decide (l.length < 17592186044416) = true := decide_eq_true hs
 clear h0 h1 hs
 unfold Cp.g
 rw [hs']
 unfold Zd.D Ze.D Zo.D Zm.g
 generalize hZ : CrS _ _ _ _ _ _ = Z at hm' hE
 generalize Zd.F = f1 at *
 generalize Ze.F = f2 at *
 generalize Zo.F = f3 at *
 generalize Zm.F = f4 at *
 generalize hn : l.length = n0
 generalize hn1 : l1.length = n1 at *
 generalize hrd : (fun i => [AV.int (rd l i)]) = rd0
 generalize rd_T54 l1 = rd1 at *
 (try cbv)
 repeat' (apply And.intro <;> (try intro h) <;> (try cbv))
 all_goals (subst hO; (try dsimp only [std] at *); (try simp only [beq_iff_eq, beq_eq_false_iff_ne, ne_eq] at *))
 all_goals (subst hE hm' hZ)
 all_goals (try first | exact hb | trivial)
 all_goals first
  | rw [Zgl (by assumption) (by assumption) (by assumption) (by assumption)]
  | rw [Zgj (by assumption) (by assumption) (by assumption) (by assumption)]
  | rw [Zgk (by rintro ⟨q1, q2, q3⟩; contradiction)]
 all_goals (try unfold stS)
 all_goals (try rw [if_pos (by assumption)])
 all_goals (try rw [if_neg (by assumption)])
 all_goals (try rw [if_pos (by assumption)])
 all_goals (try rw [if_neg (by assumption)])
 all_goals first | exact Or.inl ⟨rfl, rfl⟩ | trivial | exact ⟨rfl, trivial⟩ | exact Or.inl ⟨rfl, trivial⟩
theorem ZbA.calls (A : Option Addr) (c : Nat) (wh sz : Int) (l : List Int) (thr : Value) (ck : Int) (A1 : Option Addr) (c1 : Nat) (l1 : List S54) (at_ : Int) (A2 : Option Addr) (n2 c2 : Nat) (A3 : Option Addr) (n3 c3 : Nat) (w : World) (hc : l.length ≤ c) (hC : (Kd.int .i64).C w A l.length l) (hC1 : k54.C w A1 l1.length l1) (h0 : 0 ≤ at_) (h1 : at_ < l1.length) (hs : l.length < 17592186044416) :
 Calls Tryz.prog 23 #[.agg #[.int .i64 wh, .int .i64 sz, .slice A l.length c, thr, .int .i64 ck], .agg #[.slice A1 l1.length c1, .int .i64 at_, .slice A2 n2 c2, .slice A3 n3 c3]] w fun e w' => ∃ v, e = .returned (Tv (CrS Zm.F (stS Zd.F Ze.F Zo.F wh sz l) l wh (rd_T54 l1 at_) (Pop.at (rd_T54 l1) at_ l1.length)) v) ∧ (Kd.int .i64).R 3 w' w.heap.size (fun _ => True) v (CrS Zm.F (stS Zd.F Ze.F Zo.F wh sz l) l wh (rd_T54 l1 at_) (Pop.at (rd_T54 l1) at_ l1.length)).m ∧ Below w.heap.size w w' := by
 refine (ZbA.walk A c wh sz l thr ck A1 c1 l1 at_ A2 n2 c2 A3 n3 c3 h0 h1 hs (fun a => Pop.at (rd_T54 l1) a l1.length)).callsW (w := w) (ZbW ⟨_, Tryz.func42, rfl, rfl⟩ (fun L v hg w' hb => ?_) (Zff Zm.fn Zdc)) Zap (Zb8 (ZaI rfl hC) (ZbB rfl hC1)) (ZaQ spec_l02Copy.fnD rfl hc hC (ZaQ Zd.fnD rfl hc hC (ZaQ Ze.fnD rfl hc hC (ZaQ Zo.fnD rfl hc hC ZbD))))
 unfold Pop.g at hg
 split at hg
 ·rename_i q y a2 m2 b2 a3 m3 b3
  split at hg
  ·rename_i hq
   rw [beq_iff_eq] at hq
   subst hq
   obtain ⟨a, e, hg⟩ := Option.bind_eq_some_iff.1 hg
   injection hg with hg
   subst hg
   have := ZdI.walk A1 c1 l1 a a2 m2 b2 a3 m3 b3 w' (Kd.C_below hC1 hb)
   simp only [AV.vs, AV.v, i1_v _ e]
   exact this
  ·cases hg
 ·cases hg
end Go.Proofs.YtgghglocfdcegaaGreat.Xec
