-- Written by the session's own patched copy of the printer (wip/patch_print.py).
import Derived.Test.YtjikobdblohphaaPFnListOnex0
import Derived.Test.YtjikobdblohphaaPFnListOnex1
import Derived.Test.YtjikobdblohphaaPFnListOnex3
namespace Go.Proofs.Ytjikobdblohphaa.PFnListOne
open Go.RowKit Go.Proofs.YtjikobdblohphaaW.PrintWords Go.Proofs.YtjikobdblohphaaW.PrintLast Go.Proofs.YtjikobdblohphaaW.PrintMore
attribute [local go_sem] max2_int min2_int max_two min_two max_three min_three max_four min_four   -- for this text's walks alone
set_option linter.unusedVariables false
set_option linter.unusedSimpArgs false

theorem Z4b {p : Prop} (h : p) : Aside0 p := ⟨h⟩
theorem Z4a {w : World} {g : Nat} {t : TypeId} {cs : Array Value} (h : w.heap[g]? = some (.cells cs t (0, 0))) (i : Nat) : w.frozen? ⟨g, i, none⟩ = false := blk_frozen h i
theorem Z4c {p : Prop} (h : p := by repeat (first | (with_reducible first | exact cA.out | apply IsS23.alloc | apply IsS23.drewN | apply IsS23.drew | apply IsS23.set_0 | apply IsS23.set_1 | apply IsS23.set_2 | apply IsS23.set_3 | apply IsS23.set_4 | apply IsS23.set_5 | apply IsS23.set_6 | apply IsS23.set_7 | apply IsS23.set_8 | apply IsS23.set_9) | exact cA.out)) : p := h
theorem Z4e {p : Prop} (h : p := by repeat (first | (with_reducible first | exact HB.out | apply below_alloc | apply pw_below_drewN | apply below_drew1 | refine below_set ?_ (IsS23.ge cA.out)) | exact HB.out)) : p := h
theorem Z4d {p : Prop} (h : p := by repeat (first | (with_reducible first | exact HK.out | apply KeepBut.set_ | apply keep_drewN | apply keep_drew | apply keep_alloc) | exact HK.out)) : p := h
theorem Z4f {p : Prop} (h : p := by (try simp only [List.map_toArray, List.map_cons, List.map_nil]); first | done | rfl | (simp only [List.length_drop, List.length_take]; rfl)) : p := h
theorem Z4g {p : Prop} (h : p := by first | rfl | (simp [errW_none, errW_some] <;> rfl) | (simp [*, errW_none, errW_some] <;> rfl)) : p := h
theorem Z4h {p : Prop} (h : p := by first | rfl | (simp; done) | (simp [*]; done)) : p := h
theorem Z4i {p : Prop} (h : p := by first | omega | exact Nat.le_refl _) : p := h
/-! ### impl_Call_liRead: function 62 -/
mutual
def impl_Call_liRead.j0 : Nat → Int → Bool → Int → Int → Int → Int → Int → Int → Int → Int → Int → Bool → Option (Int × Int × Int × Int × Int × Int × Int × Int × Int × Bool)
 | 0, _, _, _, _, _, _, _, _, _, _, _, _ => none
 | k + 1, x2, x20, dA, eA, fA, oA, gA, hA, iA, jA, pA, kA => if x20 = true then ((impl_Call_again.f dA eA fA oA gA hA iA jA pA kA).bind fun lA => (some (lA.1, lA.2.1, lA.2.2.1, lA.2.2.2.1, lA.2.2.2.2.1, lA.2.2.2.2.2.1, lA.2.2.2.2.2.2.1, lA.2.2.2.2.2.2.2.1, lA.2.2.2.2.2.2.2.2.1, lA.2.2.2.2.2.2.2.2.2))) else ((impl_nodeOf.f x2).bind fun yA => (if yA < 0 then (impl_Call_liRead.j1 k x2 (dA == 1) dA eA fA oA gA hA iA jA pA kA) else (impl_Call_liRead.j1 k x2 false dA eA fA oA gA hA iA jA pA kA)))
def impl_Call_liRead.j1 : Nat → Int → Bool → Int → Int → Int → Int → Int → Int → Int → Int → Int → Bool → Option (Int × Int × Int × Int × Int × Int × Int × Int × Int × Bool)
 | 0, _, _, _, _, _, _, _, _, _, _, _, _ => none
 | k + 1, x2, x32, dA, eA, fA, oA, gA, hA, iA, jA, pA, kA => if x32 = true then (some (dA, eA, fA, 4, gA, hA, iA, jA, pA, kA)) else ((impl_nodeOf.f x2).bind fun zA => (if zA < 0 then ((impl_Call_end.f dA eA fA oA gA hA iA jA pA kA 4).bind fun mA => (some (mA.1, mA.2.1, mA.2.2.1, mA.2.2.2.1, mA.2.2.2.2.1, mA.2.2.2.2.2.1, mA.2.2.2.2.2.2.1, mA.2.2.2.2.2.2.2.1, mA.2.2.2.2.2.2.2.2.1, mA.2.2.2.2.2.2.2.2.2))) else (some (dA, eA, fA, oA, gA, hA, iA, jA, pA, kA))))
def impl_Call_liRead.j2 : Nat → Int → Bool → Int → Int → Int → Int → Int → Int → Int → Int → Int → Bool → Option (Int × Int × Int × Int × Int × Int × Int × Int × Int × Bool)
 | 0, _, _, _, _, _, _, _, _, _, _, _, _ => none
 | k + 1, x2, x122, dA, eA, fA, oA, gA, hA, iA, jA, pA, kA => if x122 = true then ((impl_Call_end.f dA eA fA oA gA hA iA jA x2 kA 4).bind fun nA => (some (nA.1, nA.2.1, nA.2.2.1, nA.2.2.2.1, nA.2.2.2.2.1, nA.2.2.2.2.2.1, nA.2.2.2.2.2.2.1, nA.2.2.2.2.2.2.2.1, nA.2.2.2.2.2.2.2.2.1, nA.2.2.2.2.2.2.2.2.2))) else (if dA = 1 then (some (dA, eA, fA, 4, gA, hA, iA, jA, x2, kA)) else (some (dA, eA, fA, 7, gA, hA, iA, jA, x2, kA)))
end
def impl_Call_liRead.f (k : Nat) (s0_0 : Int) (s0_1 : Int) (s0_2 : Int) (s0_3 : Int) (s0_4 : Int) (s0_5 : Int) (s0_6 : Int) (s0_7 : Int) (s0_8 : Int) (s0_9 : Bool) (a1 : Int) (a2 : Int) : Option (Int × Int × Int × Int × Int × Int × Int × Int × Int × Bool) := if a1 = 0 then ((impl_isMarked.f a2).bind fun mB => (if mB = true then (impl_Call_liRead.j0 k a2 (s0_0 != 3) s0_0 s0_1 s0_2 s0_3 s0_4 a2 s0_6 s0_7 s0_8 s0_9) else (impl_Call_liRead.j0 k a2 false s0_0 s0_1 s0_2 s0_3 s0_4 a2 s0_6 s0_7 s0_8 s0_9))) else (if a1 = 1 then ((impl_isMarked.f a2).bind fun nB => (if nB = true then (if s0_0 = 3 then (some (s0_0, s0_1, s0_2, s0_3, s0_4, s0_5, a2, s0_7, s0_8, s0_9)) else (some (s0_0, s0_1, s0_2, 3, s0_4, s0_5, a2, s0_7, s0_8, s0_9))) else (some (s0_0, s0_1, s0_2, s0_3, s0_4, s0_5, a2, s0_7, s0_8, s0_9)))) else (if a2 < s0_1 then ((impl_nodeOf.f s0_5).bind fun AA => ((impl_linkCell.f AA).bind fun oB => (some (s0_0, s0_1, s0_2, 0, oB, s0_5, s0_6, s0_7, a2, s0_9)))) else (if s0_0 = 3 then ((impl_Call_end.f s0_0 s0_1 s0_2 s0_3 s0_4 s0_5 s0_6 s0_7 a2 s0_9 4).bind fun aA => (if a2 = aA.2.1 then ((impl_isMarked.f aA.2.2.2.2.2.2.1).bind fun pB => (if pB = true then (some (aA.1, aA.2.1, aA.2.2.1, aA.2.2.2.1, aA.2.2.2.2.1, aA.2.2.2.2.2.1, aA.2.2.2.2.2.2.1, aA.2.2.2.2.2.2.2.1, aA.2.2.2.2.2.2.2.2.1, aA.2.2.2.2.2.2.2.2.2)) else ((impl_Call_end.f aA.1 aA.2.1 aA.2.2.1 aA.2.2.2.1 aA.2.2.2.2.1 aA.2.2.2.2.2.1 aA.2.2.2.2.2.2.1 aA.2.2.2.2.2.2.2.1 aA.2.2.2.2.2.2.2.2.1 aA.2.2.2.2.2.2.2.2.2 1).bind fun bA => (some (bA.1, bA.2.1, bA.2.2.1, bA.2.2.2.1, bA.2.2.2.2.1, bA.2.2.2.2.2.1, bA.2.2.2.2.2.2.1, bA.2.2.2.2.2.2.2.1, bA.2.2.2.2.2.2.2.2.1, bA.2.2.2.2.2.2.2.2.2))))) else (some (aA.1, aA.2.1, aA.2.2.1, aA.2.2.2.1, aA.2.2.2.2.1, aA.2.2.2.2.2.1, aA.2.2.2.2.2.2.1, aA.2.2.2.2.2.2.2.1, aA.2.2.2.2.2.2.2.2.1, aA.2.2.2.2.2.2.2.2.2)))) else (if s0_0 = 1 then (if a2 = s0_1 then (impl_Call_liRead.j2 k a2 true s0_0 s0_1 s0_2 s0_3 s0_4 s0_5 s0_6 s0_7 s0_8 s0_9) else (if s0_0 = 2 then (impl_Call_liRead.j2 k a2 (a2 != s0_1) s0_0 s0_1 s0_2 s0_3 s0_4 s0_5 s0_6 s0_7 s0_8 s0_9) else (impl_Call_liRead.j2 k a2 false s0_0 s0_1 s0_2 s0_3 s0_4 s0_5 s0_6 s0_7 s0_8 s0_9))) else (if s0_0 = 2 then (impl_Call_liRead.j2 k a2 (a2 != s0_1) s0_0 s0_1 s0_2 s0_3 s0_4 s0_5 s0_6 s0_7 s0_8 s0_9) else (impl_Call_liRead.j2 k a2 false s0_0 s0_1 s0_2 s0_3 s0_4 s0_5 s0_6 s0_7 s0_8 s0_9))))))
theorem impl_Call_liRead.mono_l : ∀ k, (∀ y0 y1 y2 y3 y4 y5 y6 y7 y8 y9 y10 y11, LeO (impl_Call_liRead.j0 k y0 y1 y2 y3 y4 y5 y6 y7 y8 y9 y10 y11) (impl_Call_liRead.j0 (k + 1) y0 y1 y2 y3 y4 y5 y6 y7 y8 y9 y10 y11)) ∧ (∀ y0 y1 y2 y3 y4 y5 y6 y7 y8 y9 y10 y11, LeO (impl_Call_liRead.j1 k y0 y1 y2 y3 y4 y5 y6 y7 y8 y9 y10 y11) (impl_Call_liRead.j1 (k + 1) y0 y1 y2 y3 y4 y5 y6 y7 y8 y9 y10 y11)) ∧ (∀ y0 y1 y2 y3 y4 y5 y6 y7 y8 y9 y10 y11, LeO (impl_Call_liRead.j2 k y0 y1 y2 y3 y4 y5 y6 y7 y8 y9 y10 y11) (impl_Call_liRead.j2 (k + 1) y0 y1 y2 y3 y4 y5 y6 y7 y8 y9 y10 y11))
 | 0 => ⟨fun _ _ _ _ _ _ _ _ _ _ _ _ r h => by simp [impl_Call_liRead.j0] at h, fun _ _ _ _ _ _ _ _ _ _ _ _ r h => by simp [impl_Call_liRead.j1] at h, fun _ _ _ _ _ _ _ _ _ _ _ _ r h => by simp [impl_Call_liRead.j2] at h⟩
 | k + 1 => by
  obtain ⟨ih0, ih1, ih2⟩ := impl_Call_liRead.mono_l k
  refine ⟨?_, ?_, ?_⟩
  ·intro y0 y1 y2 y3 y4 y5 y6 y7 y8 y9 y10 y11
   unfold impl_Call_liRead.j0
   repeat' first
   | (with_reducible exact ih0 _ _ _ _ _ _ _ _ _ _ _ _)
   | (with_reducible exact ih1 _ _ _ _ _ _ _ _ _ _ _ _)
   | (with_reducible exact ih2 _ _ _ _ _ _ _ _ _ _ _ _)
   | (with_reducible exact LeO.refl _)
   | (with_reducible exact LeO.none _)
   | (with_reducible refine LeO.ite ?_ ?_)
   | (with_reducible refine LeO.bind ?_ (fun _ => ?_))
   | exact ih0 _ _ _ _ _ _ _ _ _ _ _ _
   | exact ih1 _ _ _ _ _ _ _ _ _ _ _ _
   | exact ih2 _ _ _ _ _ _ _ _ _ _ _ _
   | exact LeO.none _
   | refine LeO.ite ?_ ?_
   | refine LeO.bind ?_ (fun _ => ?_)
  ·intro y0 y1 y2 y3 y4 y5 y6 y7 y8 y9 y10 y11
   unfold impl_Call_liRead.j1
   repeat' first
   | (with_reducible exact ih0 _ _ _ _ _ _ _ _ _ _ _ _)
   | (with_reducible exact ih1 _ _ _ _ _ _ _ _ _ _ _ _)
   | (with_reducible exact ih2 _ _ _ _ _ _ _ _ _ _ _ _)
   | (with_reducible exact LeO.refl _)
   | (with_reducible exact LeO.none _)
   | (with_reducible refine LeO.ite ?_ ?_)
   | (with_reducible refine LeO.bind ?_ (fun _ => ?_))
   | exact ih0 _ _ _ _ _ _ _ _ _ _ _ _
   | exact ih1 _ _ _ _ _ _ _ _ _ _ _ _
   | exact ih2 _ _ _ _ _ _ _ _ _ _ _ _
   | exact LeO.none _
   | refine LeO.ite ?_ ?_
   | refine LeO.bind ?_ (fun _ => ?_)
  ·intro y0 y1 y2 y3 y4 y5 y6 y7 y8 y9 y10 y11
   unfold impl_Call_liRead.j2
   repeat' first
   | (with_reducible exact ih0 _ _ _ _ _ _ _ _ _ _ _ _)
   | (with_reducible exact ih1 _ _ _ _ _ _ _ _ _ _ _ _)
   | (with_reducible exact ih2 _ _ _ _ _ _ _ _ _ _ _ _)
   | (with_reducible exact LeO.refl _)
   | (with_reducible exact LeO.none _)
   | (with_reducible refine LeO.ite ?_ ?_)
   | (with_reducible refine LeO.bind ?_ (fun _ => ?_))
   | exact ih0 _ _ _ _ _ _ _ _ _ _ _ _
   | exact ih1 _ _ _ _ _ _ _ _ _ _ _ _
   | exact ih2 _ _ _ _ _ _ _ _ _ _ _ _
   | exact LeO.none _
   | refine LeO.ite ?_ ?_
   | refine LeO.bind ?_ (fun _ => ?_)
theorem impl_Call_liRead.mono : ∀ a0 a1 a2 a3 a4 a5 a6 a7 a8 a9 a10 a11 k, LeO (impl_Call_liRead.f k a0 a1 a2 a3 a4 a5 a6 a7 a8 a9 a10 a11) (impl_Call_liRead.f (k + 1) a0 a1 a2 a3 a4 a5 a6 a7 a8 a9 a10 a11) := by
 intro a0 a1 a2 a3 a4 a5 a6 a7 a8 a9 a10 a11 k
 obtain ⟨ih0, ih1, ih2⟩ := impl_Call_liRead.mono_l k
 unfold impl_Call_liRead.f
 repeat' first
   | (with_reducible exact ih0 _ _ _ _ _ _ _ _ _ _ _ _)
   | (with_reducible exact ih1 _ _ _ _ _ _ _ _ _ _ _ _)
   | (with_reducible exact ih2 _ _ _ _ _ _ _ _ _ _ _ _)
   | (with_reducible exact LeO.refl _)
   | (with_reducible exact LeO.none _)
   | (with_reducible refine LeO.ite ?_ ?_)
   | (with_reducible refine LeO.bind ?_ (fun _ => ?_))
   | exact ih0 _ _ _ _ _ _ _ _ _ _ _ _
   | exact ih1 _ _ _ _ _ _ _ _ _ _ _ _
   | exact ih2 _ _ _ _ _ _ _ _ _ _ _ _
   | exact LeO.none _
   | refine LeO.ite ?_ ?_
   | refine LeO.bind ?_ (fun _ => ?_)
set_option maxHeartbeats 8000000 in
set_option maxRecDepth 100000 in
theorem impl_Call_liRead.calls (k : Nat) (g : Nat) (s0_0 : Int) (s0_1 : Int) (s0_2 : Int) (s0_3 : Int) (s0_4 : Int) (s0_5 : Int) (s0_6 : Int) (s0_7 : Int) (s0_8 : Int) (s0_9 : Bool) (a1 : Int) (a2 : Int) (r1 : Int) (r2 : Int) (r3 : Int) (r4 : Int) (r5 : Int) (r6 : Int) (r7 : Int) (r8 : Int) (r9 : Int) (r10 : Bool) (w0 w : World) (hI : IsS23 w0 w g s0_0 s0_1 s0_2 s0_3 s0_4 s0_5 s0_6 s0_7 s0_8 s0_9) (hB : Below w0.heap.size w0 w) (h : impl_Call_liRead.f k s0_0 s0_1 s0_2 s0_3 s0_4 s0_5 s0_6 s0_7 s0_8 s0_9 a1 a2 = some (r1, r2, r3, r4, r5, r6, r7, r8, r9, r10)) :
  Calls Try.prog 62 #[.pointer (some ⟨g, 0, none⟩), .int .i64 a1, .int .i64 a2] w fun e w' => e = .returned (.tuple #[]) ∧ IsS23 w0 w' g r1 r2 r3 r4 r5 r6 r7 r8 r9 r10 ∧ Below w0.heap.size w0 w' ∧ KeepBut w w' g none := by
 have cA := Z4b hI
 have HK := Z4b (KeepBut.refl w g none)
 have HL := Z4b hB.size
 clear hI
 have HW0 := Z4b hB.size
 have HB := Z4b hB
 clear hB
 have H : (if a1 = 0 then ((impl_isMarked.f a2).bind fun mB => (if mB = true then (impl_Call_liRead.j0 k a2 (s0_0 != 3) s0_0 s0_1 s0_2 s0_3 s0_4 a2 s0_6 s0_7 s0_8 s0_9) else (impl_Call_liRead.j0 k a2 false s0_0 s0_1 s0_2 s0_3 s0_4 a2 s0_6 s0_7 s0_8 s0_9))) else (if a1 = 1 then ((impl_isMarked.f a2).bind fun nB => (if nB = true then (if s0_0 = 3 then (some (s0_0, s0_1, s0_2, s0_3, s0_4, s0_5, a2, s0_7, s0_8, s0_9)) else (some (s0_0, s0_1, s0_2, 3, s0_4, s0_5, a2, s0_7, s0_8, s0_9))) else (some (s0_0, s0_1, s0_2, s0_3, s0_4, s0_5, a2, s0_7, s0_8, s0_9)))) else (if a2 < s0_1 then ((impl_nodeOf.f s0_5).bind fun AA => ((impl_linkCell.f AA).bind fun oB => (some (s0_0, s0_1, s0_2, 0, oB, s0_5, s0_6, s0_7, a2, s0_9)))) else (if s0_0 = 3 then ((impl_Call_end.f s0_0 s0_1 s0_2 s0_3 s0_4 s0_5 s0_6 s0_7 a2 s0_9 4).bind fun aA => (if a2 = aA.2.1 then ((impl_isMarked.f aA.2.2.2.2.2.2.1).bind fun pB => (if pB = true then (some (aA.1, aA.2.1, aA.2.2.1, aA.2.2.2.1, aA.2.2.2.2.1, aA.2.2.2.2.2.1, aA.2.2.2.2.2.2.1, aA.2.2.2.2.2.2.2.1, aA.2.2.2.2.2.2.2.2.1, aA.2.2.2.2.2.2.2.2.2)) else ((impl_Call_end.f aA.1 aA.2.1 aA.2.2.1 aA.2.2.2.1 aA.2.2.2.2.1 aA.2.2.2.2.2.1 aA.2.2.2.2.2.2.1 aA.2.2.2.2.2.2.2.1 aA.2.2.2.2.2.2.2.2.1 aA.2.2.2.2.2.2.2.2.2 1).bind fun bA => (some (bA.1, bA.2.1, bA.2.2.1, bA.2.2.2.1, bA.2.2.2.2.1, bA.2.2.2.2.2.1, bA.2.2.2.2.2.2.1, bA.2.2.2.2.2.2.2.1, bA.2.2.2.2.2.2.2.2.1, bA.2.2.2.2.2.2.2.2.2))))) else (some (aA.1, aA.2.1, aA.2.2.1, aA.2.2.2.1, aA.2.2.2.2.1, aA.2.2.2.2.2.1, aA.2.2.2.2.2.2.1, aA.2.2.2.2.2.2.2.1, aA.2.2.2.2.2.2.2.2.1, aA.2.2.2.2.2.2.2.2.2)))) else (if s0_0 = 1 then (if a2 = s0_1 then (impl_Call_liRead.j2 k a2 true s0_0 s0_1 s0_2 s0_3 s0_4 s0_5 s0_6 s0_7 s0_8 s0_9) else (if s0_0 = 2 then (impl_Call_liRead.j2 k a2 (a2 != s0_1) s0_0 s0_1 s0_2 s0_3 s0_4 s0_5 s0_6 s0_7 s0_8 s0_9) else (impl_Call_liRead.j2 k a2 false s0_0 s0_1 s0_2 s0_3 s0_4 s0_5 s0_6 s0_7 s0_8 s0_9))) else (if s0_0 = 2 then (impl_Call_liRead.j2 k a2 (a2 != s0_1) s0_0 s0_1 s0_2 s0_3 s0_4 s0_5 s0_6 s0_7 s0_8 s0_9) else (impl_Call_liRead.j2 k a2 false s0_0 s0_1 s0_2 s0_3 s0_4 s0_5 s0_6 s0_7 s0_8 s0_9))))))) = some (r1, r2, r3, r4, r5, r6, r7, r8, r9, r10) := h
 clear h
 by_cases c4 : a1 = 0
 ·rw [if_pos c4] at H
  have IB : (a1 == 0) = true := beq_iff_eq.mpr c4
  have JB : (a1 != 0) = false := bne_eq_false_iff_eq.mpr c4
  clear c4
  have HC5 := Z4b H
  clear H
  obtain ⟨HGz6, hgz6⟩ := cA.out
  have qB := cellS23_0 HGz6
  have rB := cellS23_1 HGz6
  have sB := cellS23_2 HGz6
  have tB := cellS23_3 HGz6
  have uB := cellS23_4 HGz6
  have vB := cellS23_5 HGz6
  have wB := cellS23_6 HGz6
  have xB := cellS23_7 HGz6
  have yB := cellS23_8 HGz6
  have zB := cellS23_9 HGz6
  have BA := Z4a HGz6 0
  have CA := Z4a HGz6 1
  have DA := Z4a HGz6 2
  have EA := Z4a HGz6 3
  have FA := Z4a HGz6 4
  have GA := Z4a HGz6 5
  have IA := Z4a HGz6 6
  have JA := Z4a HGz6 7
  have KA := Z4a HGz6 8
  have LA := Z4a HGz6 9
  clear HGz6 hgz6
  go_enter Try.func62, Try.ntmps62
  go_upto_region 4 with (fail)
  go_cut [20] (fun v20 wc => ∃ (kq : Nat) (ZA : Bool), v20 = .bool ZA ∧ Aside0 (impl_Call_liRead.j0 kq a2 ZA s0_0 s0_1 s0_2 s0_3 s0_4 a2 s0_6 s0_7 s0_8 s0_9 = some (r1, r2, r3, r4, r5, r6, r7, r8, r9, r10)) ∧ Aside0 (kq ≤ k) ∧ Aside0 (IsS23 w0 wc g s0_0 s0_1 s0_2 s0_3 s0_4 a2 s0_6 s0_7 s0_8 s0_9) ∧ Aside0 (KeepBut w wc g none) ∧ Aside0 (Below w0.heap.size w0 wc))
  case first =>
   have H := HC5.out
   clear HC5
   replace H := Option.bind_eq_some_iff.mp H
   obtain ⟨mB, A70, H⟩ := H
   (try dsimp only at H)
   have A7 := Z4b A70
   clear A70
   by_cases c8 : mB = true
   ·subst c8
    rw [if_pos rfl] at H
    have H' := Z4b H
    clear H
    go_wp2_with (first | ((with_reducible refine gate_callee (f := 67) rfl ?_); refine goesL_ (some 22) rfl rfl Try.func67 (by kernel_rfl) rfl #[.int .i64 a2] rfl Z4f ?_; (with_reducible refine (impl_isMarked.calls a2 true _ A7.out).mono ?_); rintro e w' ⟨rfl, ⟨nd, rfl⟩⟩; refine ⟨_, rfl, ?_⟩; obtain ⟨HGz9, hgz9⟩ := cA.out; have AB := cellS23_0 HGz9; have BB := cellS23_1 HGz9; have CB := cellS23_2 HGz9; have DB := cellS23_3 HGz9; have EB := cellS23_4 HGz9; have FB := cellS23_5 HGz9; have GB := cellS23_6 HGz9; have MA := cellS23_7 HGz9; have NA := cellS23_8 HGz9; have OA := cellS23_9 HGz9; have PA := Z4a HGz9 0; have QA := Z4a HGz9 1; have RA := Z4a HGz9 2; have SA := Z4a HGz9 3; have TA := Z4a HGz9 4; have UA := Z4a HGz9 5; have VA := Z4a HGz9 6; have WA := Z4a HGz9 7; have XA := Z4a HGz9 8; have YA := Z4a HGz9 9; clear HGz9 hgz9))
    go_meet
    case rel => exact ⟨_, ((s0_0 != 3)), Z4h, H', ⟨Z4i⟩, ⟨Z4c⟩, ⟨Z4d⟩, ⟨Z4e⟩⟩
   ·replace c8 := Bool.eq_false_iff.mpr c8
    subst c8
    rw [if_neg (show ¬ (false = true) by decide)] at H
    have H' := Z4b H
    clear H
    go_wp2_with (first | ((with_reducible refine gate_callee (f := 67) rfl ?_); refine goesL_ (some 22) rfl rfl Try.func67 (by kernel_rfl) rfl #[.int .i64 a2] rfl Z4f ?_; (with_reducible refine (impl_isMarked.calls a2 false _ A7.out).mono ?_); rintro e w' ⟨rfl, ⟨nd, rfl⟩⟩; refine ⟨_, rfl, ?_⟩))
    go_meet
    case rel => exact ⟨_, (false), Z4h, H', ⟨Z4i⟩, ⟨Z4c⟩, ⟨Z4d⟩, ⟨Z4e⟩⟩
  case rest =>
   clear HC5
   (try clear p2); (try clear c4); (try clear IB); (try clear JB); (try clear c6); (try clear c8); (try clear qB); (try clear rB); (try clear sB); (try clear tB); (try clear uB); (try clear vB); (try clear wB); (try clear xB); (try clear yB); (try clear zB); (try clear AB); (try clear BB); (try clear CB); (try clear DB); (try clear EB); (try clear FB); (try clear GB); (try clear MA); (try clear NA); (try clear OA); (try clear BA); (try clear CA); (try clear DA); (try clear EA); (try clear FA); (try clear GA); (try clear IA); (try clear JA); (try clear KA); (try clear LA); (try clear PA); (try clear QA); (try clear RA); (try clear SA); (try clear TA); (try clear UA); (try clear VA); (try clear WA); (try clear XA); (try clear YA)
   obtain ⟨kq, ZA, rfl, HA, HJ4, cA, HK, HB⟩ := hcut
   cases kq with
   | zero => exact absurd HA.out (by simp [impl_Call_liRead.j0])
   | succ kj4 =>
    have H := HA.out
    clear HA
    simp only [impl_Call_liRead.j0] at H
    by_cases c10 : ZA = true
    ·subst c10
     rw [if_pos rfl] at H
     replace H := Option.bind_eq_some_iff.mp H
     obtain ⟨⟨gK, hK, iK, jK, kK, lK, mK, nK, oK, pK⟩, A110, H⟩ := H
     (try dsimp only at H)
     have A11 := Z4b A110
     clear A110
     simp only [Option.some.injEq, Prod.mk.injEq] at H
     obtain ⟨rfl, rfl, rfl, rfl, rfl, rfl, rfl, rfl, rfl, rfl⟩ := H
     go_wp2_with (first | ((with_reducible refine gate_callee (f := 63) rfl ?_); refine goesL_ (some 31) rfl rfl Try.func63 (by kernel_rfl) rfl #[.pointer (some ⟨g, 0, none⟩)] rfl Z4f ?_; (with_reducible refine (impl_Call_again.calls g s0_0 s0_1 s0_2 s0_3 s0_4 a2 s0_6 s0_7 s0_8 s0_9 gK hK iK jK kK lK mK nK oK pK w0 _ ?side1 ?side2 A11.out).mono ?_); (case side1 => exact Z4c); (case side2 => exact Z4e); rintro e WK ⟨rfl, hi, hb, hk⟩; refine ⟨_, rfl, ?_⟩; have rA := Z4b (KeepBut.trans Z4d hk (.inl rfl)); have sA := Z4b (hb); have tA := Z4b (hi); clear HK HB cA; have HK := rA; have HB := sA; have cA := tA; clear rA sA tA; (try clear hb); (try clear hb2); (try clear hk); (try clear hi)))
     first | go_end0 | ((try simp only [Exit.inBlock, Exit.then]); refine bodyPost_ret (results_none rfl _ _ _) rfl ?_)
     exact ⟨Z4g, Z4c, Z4e, Z4d⟩
    ·replace c10 := Bool.eq_false_iff.mpr c10
     subst c10
     rw [if_neg (show ¬ (false = true) by decide)] at H
     have HC13 := Z4b H
     clear H
     go_upto_region 6 with (fail)
     go_cut [32] (fun v32 wc => ∃ (kq : Nat) (wA : Bool), v32 = .bool wA ∧ Aside0 (impl_Call_liRead.j1 kq a2 wA s0_0 s0_1 s0_2 s0_3 s0_4 a2 s0_6 s0_7 s0_8 s0_9 = some (r1, r2, r3, r4, r5, r6, r7, r8, r9, r10)) ∧ Aside0 (kq ≤ kj4) ∧ Aside0 (IsS23 w0 wc g s0_0 s0_1 s0_2 s0_3 s0_4 a2 s0_6 s0_7 s0_8 s0_9) ∧ Aside0 (KeepBut w wc g none) ∧ Aside0 (Below w0.heap.size w0 wc))
     case first =>
      have H := HC13.out
      clear HC13
      replace H := Option.bind_eq_some_iff.mp H
      obtain ⟨yA, A140, H⟩ := H
      (try dsimp only at H)
      have A14 := Z4b A140
      clear A140
      by_cases c15 : yA < 0
      ·rw [if_pos c15] at H
       have uA : decide (yA < 0) = true := decide_eq_true c15
       clear c15
       (first | rw [uA] | (simp only [i64_w, i32_w]; rw [uA]) | skip)
       have H' := Z4b H
       clear H
       go_wp2_with (first | ((with_reducible refine gate_callee (f := 52) rfl ?_); refine goesL_ (some 34) rfl rfl Try.func52 (by kernel_rfl) rfl #[.int .i64 a2] rfl Z4f ?_; (with_reducible refine (impl_nodeOf.calls a2 yA _ A14.out).mono ?_); rintro e w' ⟨rfl, ⟨nd, rfl⟩⟩; refine ⟨_, rfl, ?_⟩; obtain ⟨HGz16, hgz16⟩ := cA.out; have KB := cellS23_0 HGz16; have LB := cellS23_1 HGz16; have MB := cellS23_2 HGz16; have NB := cellS23_3 HGz16; have OB := cellS23_4 HGz16; have PB := cellS23_5 HGz16; have QB := cellS23_6 HGz16; have RB := cellS23_7 HGz16; have SB := cellS23_8 HGz16; have TB := cellS23_9 HGz16; have aB := Z4a HGz16 0; have bB := Z4a HGz16 1; have cB := Z4a HGz16 2; have dB := Z4a HGz16 3; have eB := Z4a HGz16 4; have fB := Z4a HGz16 5; have gB := Z4a HGz16 6; have iB := Z4a HGz16 7; have jB := Z4a HGz16 8; have kB := Z4a HGz16 9; clear HGz16 hgz16))
       go_meet
       case rel => exact ⟨_, ((s0_0 == 1)), Z4h, H', ⟨by have := HJ4.out; first | omega | exact Nat.le_refl _⟩, ⟨Z4c⟩, ⟨Z4d⟩, ⟨Z4e⟩⟩
      ·rw [if_neg c15] at H
       have uA : decide (yA < 0) = false := decide_eq_false c15
       clear c15
       (first | rw [uA] | (simp only [i64_w, i32_w]; rw [uA]) | skip)
       have H' := Z4b H
       clear H
       go_wp2_with (first | ((with_reducible refine gate_callee (f := 52) rfl ?_); refine goesL_ (some 34) rfl rfl Try.func52 (by kernel_rfl) rfl #[.int .i64 a2] rfl Z4f ?_; (with_reducible refine (impl_nodeOf.calls a2 yA _ A14.out).mono ?_); rintro e w' ⟨rfl, ⟨nd, rfl⟩⟩; refine ⟨_, rfl, ?_⟩))
       go_meet
       case rel => exact ⟨_, (false), Z4h, H', ⟨by have := HJ4.out; first | omega | exact Nat.le_refl _⟩, ⟨Z4c⟩, ⟨Z4d⟩, ⟨Z4e⟩⟩
     case rest =>
      clear HC13
      (try clear c1); (try clear p2); (try clear c4); (try clear IB); (try clear JB); (try clear c5); (try clear c6); (try clear c8); (try clear c10); (try clear c15); (try clear uA); (try clear KB); (try clear LB); (try clear MB); (try clear NB); (try clear OB); (try clear PB); (try clear QB); (try clear RB); (try clear SB); (try clear TB); (try clear qB); (try clear rB); (try clear sB); (try clear tB); (try clear uB); (try clear vB); (try clear wB); (try clear xB); (try clear yB); (try clear zB); (try clear AB); (try clear BB); (try clear CB); (try clear DB); (try clear EB); (try clear FB); (try clear GB); (try clear MA); (try clear NA); (try clear OA); (try clear aB); (try clear bB); (try clear cB); (try clear dB); (try clear eB); (try clear fB); (try clear gB); (try clear iB); (try clear jB); (try clear kB); (try clear BA); (try clear CA); (try clear DA); (try clear EA); (try clear FA); (try clear GA); (try clear IA); (try clear JA); (try clear KA); (try clear LA); (try clear PA); (try clear QA); (try clear RA); (try clear SA); (try clear TA); (try clear UA); (try clear VA); (try clear WA); (try clear XA); (try clear YA); (try clear p2)
      obtain ⟨kq, wA, rfl, HA, HJ12, cA, HK, HB⟩ := hcut
      cases kq with
      | zero => exact absurd HA.out (by simp [impl_Call_liRead.j1])
      | succ kj12 =>
       have H := HA.out
       clear HA
       simp only [impl_Call_liRead.j1] at H
       by_cases c17 : wA = true
       ·subst c17
        rw [if_pos rfl] at H
        simp only [Option.some.injEq, Prod.mk.injEq] at H
        obtain ⟨rfl, rfl, rfl, rfl, rfl, rfl, rfl, rfl, rfl, rfl⟩ := H
        obtain ⟨HGz18, hgz18⟩ := cA.out
        have UB := cellS23_0 HGz18
        have VB := cellS23_1 HGz18
        have WB := cellS23_2 HGz18
        have XB := cellS23_3 HGz18
        have YB := cellS23_4 HGz18
        have ZB := cellS23_5 HGz18
        have aC := cellS23_6 HGz18
        have bC := cellS23_7 HGz18
        have cC := cellS23_8 HGz18
        have dC := cellS23_9 HGz18
        have eC := Z4a HGz18 0
        have fC := Z4a HGz18 1
        have gC := Z4a HGz18 2
        have hC := Z4a HGz18 3
        have iC := Z4a HGz18 4
        have jC := Z4a HGz18 5
        have kC := Z4a HGz18 6
        have lC := Z4a HGz18 7
        have mC := Z4a HGz18 8
        have nC := Z4a HGz18 9
        clear HGz18 hgz18
        go_wp2
        first | go_end0 | ((try simp only [Exit.inBlock, Exit.then]); refine bodyPost_ret (results_none rfl _ _ _) rfl ?_)
        exact ⟨Z4g, Z4c, Z4e, Z4d⟩
       ·replace c17 := Bool.eq_false_iff.mpr c17
        subst c17
        rw [if_neg (show ¬ (false = true) by decide)] at H
        replace H := Option.bind_eq_some_iff.mp H
        obtain ⟨zA, A190, H⟩ := H
        (try dsimp only at H)
        have A19 := Z4b A190
        clear A190
        by_cases c20 : zA < 0
        ·rw [if_pos c20] at H
         have FI : decide (zA < 0) = true := decide_eq_true c20
         clear c20
         replace H := Option.bind_eq_some_iff.mp H
         obtain ⟨⟨qK, rK, sK, tK, uK, vK, wK, xK, yK, zK⟩, A210, H⟩ := H
         (try dsimp only at H)
         have A21 := Z4b A210
         clear A210
         simp only [Option.some.injEq, Prod.mk.injEq] at H
         obtain ⟨rfl, rfl, rfl, rfl, rfl, rfl, rfl, rfl, rfl, rfl⟩ := H
         go_wp2_with (first | ((with_reducible refine gate_callee (f := 52) rfl ?_); refine goesL_ (some 48) rfl rfl Try.func52 (by kernel_rfl) rfl #[.int .i64 a2] rfl Z4f ?_; (with_reducible refine (impl_nodeOf.calls a2 zA _ A19.out).mono ?_); rintro e w' ⟨rfl, ⟨nd, rfl⟩⟩; refine ⟨_, rfl, ?_⟩) | ((with_reducible refine gate_callee (f := 64) rfl ?_); refine goesL_ (some 51) rfl rfl Try.func64 (by kernel_rfl) rfl #[.pointer (some ⟨g, 0, none⟩), .int .i64 4] rfl Z4f ?_; (with_reducible refine (impl_Call_end.calls g s0_0 s0_1 s0_2 s0_3 s0_4 a2 s0_6 s0_7 s0_8 s0_9 4 qK rK sK tK uK vK wK xK yK zK w0 _ ?side1 ?side2 A21.out).mono ?_); (case side1 => exact Z4c); (case side2 => exact Z4e); rintro e XK ⟨rfl, hi, hb, hk⟩; refine ⟨_, rfl, ?_⟩; have rA := Z4b (KeepBut.trans Z4d hk (.inl rfl)); have sA := Z4b (hb); have tA := Z4b (hi); clear HK HB cA; have HK := rA; have HB := sA; have cA := tA; clear rA sA tA; (try clear hb); (try clear hb2); (try clear hk); (try clear hi)))
         first | go_end0 | ((try simp only [Exit.inBlock, Exit.then]); refine bodyPost_ret (results_none rfl _ _ _) rfl ?_)
         exact ⟨Z4g, Z4c, Z4e, Z4d⟩
        ·rw [if_neg c20] at H
         have FI : decide (zA < 0) = false := decide_eq_false c20
         clear c20
         simp only [Option.some.injEq, Prod.mk.injEq] at H
         obtain ⟨rfl, rfl, rfl, rfl, rfl, rfl, rfl, rfl, rfl, rfl⟩ := H
         go_wp2_with (first | ((with_reducible refine gate_callee (f := 52) rfl ?_); refine goesL_ (some 48) rfl rfl Try.func52 (by kernel_rfl) rfl #[.int .i64 a2] rfl Z4f ?_; (with_reducible refine (impl_nodeOf.calls a2 zA _ A19.out).mono ?_); rintro e w' ⟨rfl, ⟨nd, rfl⟩⟩; refine ⟨_, rfl, ?_⟩))
         first | go_end0 | ((try simp only [Exit.inBlock, Exit.then]); refine bodyPost_ret (results_none rfl _ _ _) rfl ?_)
         exact ⟨Z4g, Z4c, Z4e, Z4d⟩
 ·rw [if_neg c4] at H
  have IB : (a1 == 0) = false := beq_eq_false_iff_ne.mpr c4
  have JB : (a1 != 0) = true := bne_iff_ne.mpr c4
  by_cases c23 : a1 = 1
  ·rw [if_pos c23] at H
   have GI : (a1 == 1) = true := beq_iff_eq.mpr c23
   have HI : (a1 != 1) = false := bne_eq_false_iff_eq.mpr c23
   clear c23
   replace H := Option.bind_eq_some_iff.mp H
   obtain ⟨nB, A240, H⟩ := H
   (try dsimp only at H)
   have A24 := Z4b A240
   clear A240
   by_cases c25 : nB = true
   ·subst c25
    rw [if_pos rfl] at H
    by_cases c26 : s0_0 = 3
    ·rw [if_pos c26] at H
     have II : (s0_0 == 3) = true := beq_iff_eq.mpr c26
     have JI : (s0_0 != 3) = false := bne_eq_false_iff_eq.mpr c26
     clear c26
     simp only [Option.some.injEq, Prod.mk.injEq] at H
     obtain ⟨rfl, rfl, rfl, rfl, rfl, rfl, rfl, rfl, rfl, rfl⟩ := H
     obtain ⟨HGz27, hgz27⟩ := cA.out
     have oC := cellS23_0 HGz27
     have pC := cellS23_1 HGz27
     have qC := cellS23_2 HGz27
     have rC := cellS23_3 HGz27
     have sC := cellS23_4 HGz27
     have tC := cellS23_5 HGz27
     have uC := cellS23_6 HGz27
     have vC := cellS23_7 HGz27
     have wC := cellS23_8 HGz27
     have xC := cellS23_9 HGz27
     have yC := Z4a HGz27 0
     have zC := Z4a HGz27 1
     have AC := Z4a HGz27 2
     have BC := Z4a HGz27 3
     have CC := Z4a HGz27 4
     have DC := Z4a HGz27 5
     have EC := Z4a HGz27 6
     have FC := Z4a HGz27 7
     have GC := Z4a HGz27 8
     have HC := Z4a HGz27 9
     clear HGz27 hgz27
     go_enter Try.func62, Try.ntmps62
     go_wp2_with (first | ((with_reducible refine gate_callee (f := 67) rfl ?_); refine goesL_ (some 60) rfl rfl Try.func67 (by kernel_rfl) rfl #[.int .i64 a2] rfl Z4f ?_; (with_reducible refine (impl_isMarked.calls a2 true _ A24.out).mono ?_); rintro e w' ⟨rfl, ⟨nd, rfl⟩⟩; refine ⟨_, rfl, ?_⟩))
     first | go_end0 | ((try simp only [Exit.inBlock, Exit.then]); refine bodyPost_ret (results_none rfl _ _ _) rfl ?_)
     exact ⟨Z4g, Z4c, Z4e, Z4d⟩
    ·rw [if_neg c26] at H
     have II : (s0_0 == 3) = false := beq_eq_false_iff_ne.mpr c26
     have JI : (s0_0 != 3) = true := bne_iff_ne.mpr c26
     simp only [Option.some.injEq, Prod.mk.injEq] at H
     obtain ⟨rfl, rfl, rfl, rfl, rfl, rfl, rfl, rfl, rfl, rfl⟩ := H
     obtain ⟨HGz28, hgz28⟩ := cA.out
     have IC := cellS23_0 HGz28
     have JC := cellS23_1 HGz28
     have KC := cellS23_2 HGz28
     have LC := cellS23_3 HGz28
     have MC := cellS23_4 HGz28
     have NC := cellS23_5 HGz28
     have OC := cellS23_6 HGz28
     have PC := cellS23_7 HGz28
     have QC := cellS23_8 HGz28
     have RC := cellS23_9 HGz28
     have SC := Z4a HGz28 0
     have TC := Z4a HGz28 1
     have UC := Z4a HGz28 2
     have VC := Z4a HGz28 3
     have WC := Z4a HGz28 4
     have XC := Z4a HGz28 5
     have YC := Z4a HGz28 6
     have ZC := Z4a HGz28 7
     have aD := Z4a HGz28 8
     have bD := Z4a HGz28 9
     clear HGz28 hgz28
     go_enter Try.func62, Try.ntmps62
     go_wp2_with (first | ((with_reducible refine gate_callee (f := 67) rfl ?_); refine goesL_ (some 60) rfl rfl Try.func67 (by kernel_rfl) rfl #[.int .i64 a2] rfl Z4f ?_; (with_reducible refine (impl_isMarked.calls a2 true _ A24.out).mono ?_); rintro e w' ⟨rfl, ⟨nd, rfl⟩⟩; refine ⟨_, rfl, ?_⟩))
     first | go_end0 | ((try simp only [Exit.inBlock, Exit.then]); refine bodyPost_ret (results_none rfl _ _ _) rfl ?_)
     exact ⟨Z4g, Z4c, Z4e, Z4d⟩
   ·replace c25 := Bool.eq_false_iff.mpr c25
    subst c25
    rw [if_neg (show ¬ (false = true) by decide)] at H
    simp only [Option.some.injEq, Prod.mk.injEq] at H
    obtain ⟨rfl, rfl, rfl, rfl, rfl, rfl, rfl, rfl, rfl, rfl⟩ := H
    obtain ⟨HGz29, hgz29⟩ := cA.out
    have cD := cellS23_0 HGz29
    have dD := cellS23_1 HGz29
    have eD := cellS23_2 HGz29
    have fD := cellS23_3 HGz29
    have gD := cellS23_4 HGz29
    have hD := cellS23_5 HGz29
    have iD := cellS23_6 HGz29
    have jD := cellS23_7 HGz29
    have kD := cellS23_8 HGz29
    have lD := cellS23_9 HGz29
    have mD := Z4a HGz29 0
    have nD := Z4a HGz29 1
    have oD := Z4a HGz29 2
    have pD := Z4a HGz29 3
    have qD := Z4a HGz29 4
    have rD := Z4a HGz29 5
    have sD := Z4a HGz29 6
    have tD := Z4a HGz29 7
    have uD := Z4a HGz29 8
    have vD := Z4a HGz29 9
    clear HGz29 hgz29
    go_enter Try.func62, Try.ntmps62
    go_wp2_with (first | ((with_reducible refine gate_callee (f := 67) rfl ?_); refine goesL_ (some 60) rfl rfl Try.func67 (by kernel_rfl) rfl #[.int .i64 a2] rfl Z4f ?_; (with_reducible refine (impl_isMarked.calls a2 false _ A24.out).mono ?_); rintro e w' ⟨rfl, ⟨nd, rfl⟩⟩; refine ⟨_, rfl, ?_⟩))
    first | go_end0 | ((try simp only [Exit.inBlock, Exit.then]); refine bodyPost_ret (results_none rfl _ _ _) rfl ?_)
    exact ⟨Z4g, Z4c, Z4e, Z4d⟩
  ·rw [if_neg c23] at H
   have GI : (a1 == 1) = false := beq_eq_false_iff_ne.mpr c23
   have HI : (a1 != 1) = true := bne_iff_ne.mpr c23
   by_cases c30 : a2 < s0_1
   ·rw [if_pos c30] at H
    have KI : decide (a2 < s0_1) = true := decide_eq_true c30
    clear c30
    replace H := Option.bind_eq_some_iff.mp H
    obtain ⟨AA, A310, H⟩ := H
    (try dsimp only at H)
    have A31 := Z4b A310
    clear A310
    replace H := Option.bind_eq_some_iff.mp H
    obtain ⟨oB, A320, H⟩ := H
    (try dsimp only at H)
    have A32 := Z4b A320
    clear A320
    simp only [Option.some.injEq, Prod.mk.injEq] at H
    obtain ⟨rfl, rfl, rfl, rfl, rfl, rfl, rfl, rfl, rfl, rfl⟩ := H
    obtain ⟨HGz33, hgz33⟩ := cA.out
    have wD := cellS23_0 HGz33
    have xD := cellS23_1 HGz33
    have yD := cellS23_2 HGz33
    have zD := cellS23_3 HGz33
    have AD := cellS23_4 HGz33
    have BD := cellS23_5 HGz33
    have CD := cellS23_6 HGz33
    have DD := cellS23_7 HGz33
    have ED := cellS23_8 HGz33
    have FD := cellS23_9 HGz33
    have GD := Z4a HGz33 0
    have HD := Z4a HGz33 1
    have ID := Z4a HGz33 2
    have JD := Z4a HGz33 3
    have KD := Z4a HGz33 4
    have LD := Z4a HGz33 5
    have MD := Z4a HGz33 6
    have ND := Z4a HGz33 7
    have OD := Z4a HGz33 8
    have PD := Z4a HGz33 9
    clear HGz33 hgz33
    go_enter Try.func62, Try.ntmps62
    go_wp2_with (first | ((with_reducible refine gate_callee (f := 52) rfl ?_); refine goesL_ (some 87) rfl rfl Try.func52 (by kernel_rfl) rfl #[.int .i64 s0_5] rfl Z4f ?_; (with_reducible refine (impl_nodeOf.calls s0_5 AA _ A31.out).mono ?_); rintro e w' ⟨rfl, ⟨nd, rfl⟩⟩; refine ⟨_, rfl, ?_⟩) | ((with_reducible refine gate_callee (f := 50) rfl ?_); refine goesL_ (some 88) rfl rfl Try.func50 (by kernel_rfl) rfl #[.int .i64 AA] rfl Z4f ?_; (with_reducible refine (impl_linkCell.calls AA oB _ A32.out).mono ?_); rintro e w' ⟨rfl, ⟨nd, rfl⟩⟩; refine ⟨_, rfl, ?_⟩))
    first | go_end0 | ((try simp only [Exit.inBlock, Exit.then]); refine bodyPost_ret (results_none rfl _ _ _) rfl ?_)
    exact ⟨Z4g, Z4c, Z4e, Z4d⟩
   ·rw [if_neg c30] at H
    have KI : decide (a2 < s0_1) = false := decide_eq_false c30
    clear c30
    by_cases c34 : s0_0 = 3
    ·rw [if_pos c34] at H
     have LI : (s0_0 == 3) = true := beq_iff_eq.mpr c34
     have MI : (s0_0 != 3) = false := bne_eq_false_iff_eq.mpr c34
     clear c34
     replace H := Option.bind_eq_some_iff.mp H
     obtain ⟨⟨QD, xA, RD, SD, TD, UD, lB, VD, WD, XD⟩, A350, H⟩ := H
     (try dsimp only at H)
     have A35 := Z4b A350
     clear A350
     by_cases c36 : a2 = xA
     ·rw [if_pos c36] at H
      have NI : (a2 == xA) = true := beq_iff_eq.mpr c36
      have OI : (a2 != xA) = false := bne_eq_false_iff_eq.mpr c36
      clear c36
      replace H := Option.bind_eq_some_iff.mp H
      obtain ⟨pB, A370, H⟩ := H
      (try dsimp only at H)
      have A37 := Z4b A370
      clear A370
      by_cases c38 : pB = true
      ·subst c38
       rw [if_pos rfl] at H
       simp only [Option.some.injEq, Prod.mk.injEq] at H
       obtain ⟨rfl, rfl, rfl, rfl, rfl, rfl, rfl, rfl, rfl, rfl⟩ := H
       obtain ⟨HGz39, hgz39⟩ := cA.out
       have YD := cellS23_0 HGz39
       have ZD := cellS23_1 HGz39
       have aE := cellS23_2 HGz39
       have bE := cellS23_3 HGz39
       have cE := cellS23_4 HGz39
       have dE := cellS23_5 HGz39
       have eE := cellS23_6 HGz39
       have fE := cellS23_7 HGz39
       have gE := cellS23_8 HGz39
       have hE := cellS23_9 HGz39
       have iE := Z4a HGz39 0
       have jE := Z4a HGz39 1
       have kE := Z4a HGz39 2
       have lE := Z4a HGz39 3
       have mE := Z4a HGz39 4
       have nE := Z4a HGz39 5
       have oE := Z4a HGz39 6
       have pE := Z4a HGz39 7
       have qE := Z4a HGz39 8
       have rE := Z4a HGz39 9
       clear HGz39 hgz39
       go_enter Try.func62, Try.ntmps62
       go_wp2_with (first | ((with_reducible refine gate_callee (f := 64) rfl ?_); refine goesL_ (some 105) rfl rfl Try.func64 (by kernel_rfl) rfl #[.pointer (some ⟨g, 0, none⟩), .int .i64 4] rfl Z4f ?_; (with_reducible refine (impl_Call_end.calls g s0_0 s0_1 s0_2 s0_3 s0_4 s0_5 s0_6 s0_7 a2 s0_9 4 QD xA RD SD TD UD lB VD WD XD w0 _ ?side1 ?side2 A35.out).mono ?_); (case side1 => exact Z4c); (case side2 => exact Z4e); rintro e YK ⟨rfl, hi, hb, hk⟩; refine ⟨_, rfl, ?_⟩; have rA := Z4b (KeepBut.trans Z4d hk (.inl rfl)); have sA := Z4b (hb); have tA := Z4b (hi); clear HK HB cA; have HK := rA; have HB := sA; have cA := tA; clear rA sA tA; (try clear hb); (try clear hb2); (try clear hk); (try clear hi); obtain ⟨HGz41, hgz41⟩ := cA.out; have sE := cellS23_0 HGz41; have tE := cellS23_1 HGz41; have uE := cellS23_2 HGz41; have vE := cellS23_3 HGz41; have wE := cellS23_4 HGz41; have xE := cellS23_5 HGz41; have yE := cellS23_6 HGz41; have zE := cellS23_7 HGz41; have AE := cellS23_8 HGz41; have BE := cellS23_9 HGz41; have CE := Z4a HGz41 0; have DE := Z4a HGz41 1; have EE := Z4a HGz41 2; have FE := Z4a HGz41 3; have GE := Z4a HGz41 4; have HE := Z4a HGz41 5; have IE := Z4a HGz41 6; have JE := Z4a HGz41 7; have KE := Z4a HGz41 8; have LE := Z4a HGz41 9; clear HGz41 hgz41) | (go_at_call 67; (with_reducible refine (impl_isMarked.calls lB true _ A37.out).mono ?_); rintro e w' ⟨rfl, ⟨nd, rfl⟩⟩))
       first | go_end0 | ((try simp only [Exit.inBlock, Exit.then]); refine bodyPost_ret (results_none rfl _ _ _) rfl ?_)
       exact ⟨Z4g, Z4c, Z4e, Z4d⟩
      ·replace c38 := Bool.eq_false_iff.mpr c38
       subst c38
       rw [if_neg (show ¬ (false = true) by decide)] at H
       replace H := Option.bind_eq_some_iff.mp H
       obtain ⟨⟨AK, BK, CK, DK, EK, FK, GK, IK, JK, KK⟩, A420, H⟩ := H
       (try dsimp only at H)
       have A42 := Z4b A420
       clear A420
       simp only [Option.some.injEq, Prod.mk.injEq] at H
       obtain ⟨rfl, rfl, rfl, rfl, rfl, rfl, rfl, rfl, rfl, rfl⟩ := H
       obtain ⟨HGz43, hgz43⟩ := cA.out
       have ME := cellS23_0 HGz43
       have NE := cellS23_1 HGz43
       have OE := cellS23_2 HGz43
       have PE := cellS23_3 HGz43
       have QE := cellS23_4 HGz43
       have RE := cellS23_5 HGz43
       have SE := cellS23_6 HGz43
       have TE := cellS23_7 HGz43
       have UE := cellS23_8 HGz43
       have VE := cellS23_9 HGz43
       have WE := Z4a HGz43 0
       have XE := Z4a HGz43 1
       have YE := Z4a HGz43 2
       have ZE := Z4a HGz43 3
       have aF := Z4a HGz43 4
       have bF := Z4a HGz43 5
       have cF := Z4a HGz43 6
       have dF := Z4a HGz43 7
       have eF := Z4a HGz43 8
       have fF := Z4a HGz43 9
       clear HGz43 hgz43
       go_enter Try.func62, Try.ntmps62
       go_wp2_with (first | ((with_reducible refine gate_callee (f := 64) rfl ?_); refine goesL_ (some 105) rfl rfl Try.func64 (by kernel_rfl) rfl #[.pointer (some ⟨g, 0, none⟩), .int .i64 4] rfl Z4f ?_; (with_reducible refine (impl_Call_end.calls g s0_0 s0_1 s0_2 s0_3 s0_4 s0_5 s0_6 s0_7 a2 s0_9 4 QD xA RD SD TD UD lB VD WD XD w0 _ ?side1 ?side2 A35.out).mono ?_); (case side1 => exact Z4c); (case side2 => exact Z4e); rintro e ZK ⟨rfl, hi, hb, hk⟩; refine ⟨_, rfl, ?_⟩; have rA := Z4b (KeepBut.trans Z4d hk (.inl rfl)); have sA := Z4b (hb); have tA := Z4b (hi); clear HK HB cA; have HK := rA; have HB := sA; have cA := tA; clear rA sA tA; (try clear hb); (try clear hb2); (try clear hk); (try clear hi); obtain ⟨HGz45, hgz45⟩ := cA.out; have gF := cellS23_0 HGz45; have hF := cellS23_1 HGz45; have iF := cellS23_2 HGz45; have jF := cellS23_3 HGz45; have kF := cellS23_4 HGz45; have lF := cellS23_5 HGz45; have mF := cellS23_6 HGz45; have nF := cellS23_7 HGz45; have oF := cellS23_8 HGz45; have pF := cellS23_9 HGz45; have qF := Z4a HGz45 0; have rF := Z4a HGz45 1; have sF := Z4a HGz45 2; have tF := Z4a HGz45 3; have uF := Z4a HGz45 4; have vF := Z4a HGz45 5; have wF := Z4a HGz45 6; have xF := Z4a HGz45 7; have yF := Z4a HGz45 8; have zF := Z4a HGz45 9; clear HGz45 hgz45) | (go_at_call 67; (with_reducible refine (impl_isMarked.calls lB false _ A37.out).mono ?_); rintro e w' ⟨rfl, ⟨nd, rfl⟩⟩) | ((with_reducible refine gate_callee (f := 64) rfl ?_); refine goesL_ (some 121) rfl rfl Try.func64 (by kernel_rfl) rfl #[.pointer (some ⟨g, 0, none⟩), .int .i64 1] rfl Z4f ?_; (with_reducible refine (impl_Call_end.calls g QD xA RD SD TD UD lB VD WD XD 1 AK BK CK DK EK FK GK IK JK KK w0 _ ?side1 ?side2 A42.out).mono ?_); (case side1 => exact Z4c); (case side2 => exact Z4e); rintro e aL ⟨rfl, hi, hb, hk⟩; refine ⟨_, rfl, ?_⟩; have rA := Z4b (KeepBut.trans Z4d hk (.inl rfl)); have sA := Z4b (hb); have tA := Z4b (hi); clear HK HB cA; have HK := rA; have HB := sA; have cA := tA; clear rA sA tA; (try clear hb); (try clear hb2); (try clear hk); (try clear hi)))
       first | go_end0 | ((try simp only [Exit.inBlock, Exit.then]); refine bodyPost_ret (results_none rfl _ _ _) rfl ?_)
       exact ⟨Z4g, Z4c, Z4e, Z4d⟩
     ·rw [if_neg c36] at H
      have NI : (a2 == xA) = false := beq_eq_false_iff_ne.mpr c36
      have OI : (a2 != xA) = true := bne_iff_ne.mpr c36
      simp only [Option.some.injEq, Prod.mk.injEq] at H
      obtain ⟨rfl, rfl, rfl, rfl, rfl, rfl, rfl, rfl, rfl, rfl⟩ := H
      obtain ⟨HGz47, hgz47⟩ := cA.out
      have AF := cellS23_0 HGz47
      have BF := cellS23_1 HGz47
      have CF := cellS23_2 HGz47
      have DF := cellS23_3 HGz47
      have EF := cellS23_4 HGz47
      have FF := cellS23_5 HGz47
      have GF := cellS23_6 HGz47
      have HF := cellS23_7 HGz47
      have IF := cellS23_8 HGz47
      have JF := cellS23_9 HGz47
      have KF := Z4a HGz47 0
      have LF := Z4a HGz47 1
      have MF := Z4a HGz47 2
      have NF := Z4a HGz47 3
      have OF := Z4a HGz47 4
      have PF := Z4a HGz47 5
      have QF := Z4a HGz47 6
      have RF := Z4a HGz47 7
      have SF := Z4a HGz47 8
      have TF := Z4a HGz47 9
      clear HGz47 hgz47
      go_enter Try.func62, Try.ntmps62
      go_wp2_with (first | ((with_reducible refine gate_callee (f := 64) rfl ?_); refine goesL_ (some 105) rfl rfl Try.func64 (by kernel_rfl) rfl #[.pointer (some ⟨g, 0, none⟩), .int .i64 4] rfl Z4f ?_; (with_reducible refine (impl_Call_end.calls g s0_0 s0_1 s0_2 s0_3 s0_4 s0_5 s0_6 s0_7 a2 s0_9 4 QD xA RD SD TD UD lB VD WD XD w0 _ ?side1 ?side2 A35.out).mono ?_); (case side1 => exact Z4c); (case side2 => exact Z4e); rintro e bL ⟨rfl, hi, hb, hk⟩; refine ⟨_, rfl, ?_⟩; have rA := Z4b (KeepBut.trans Z4d hk (.inl rfl)); have sA := Z4b (hb); have tA := Z4b (hi); clear HK HB cA; have HK := rA; have HB := sA; have cA := tA; clear rA sA tA; (try clear hb); (try clear hb2); (try clear hk); (try clear hi); obtain ⟨HGz49, hgz49⟩ := cA.out; have UF := cellS23_0 HGz49; have VF := cellS23_1 HGz49; have WF := cellS23_2 HGz49; have XF := cellS23_3 HGz49; have YF := cellS23_4 HGz49; have ZF := cellS23_5 HGz49; have aG := cellS23_6 HGz49; have bG := cellS23_7 HGz49; have cG := cellS23_8 HGz49; have dG := cellS23_9 HGz49; have eG := Z4a HGz49 0; have fG := Z4a HGz49 1; have gG := Z4a HGz49 2; have hG := Z4a HGz49 3; have iG := Z4a HGz49 4; have jG := Z4a HGz49 5; have kG := Z4a HGz49 6; have lG := Z4a HGz49 7; have mG := Z4a HGz49 8; have nG := Z4a HGz49 9; clear HGz49 hgz49))
      first | go_end0 | ((try simp only [Exit.inBlock, Exit.then]); refine bodyPost_ret (results_none rfl _ _ _) rfl ?_)
      exact ⟨Z4g, Z4c, Z4e, Z4d⟩
    ·rw [if_neg c34] at H
     have LI : (s0_0 == 3) = false := beq_eq_false_iff_ne.mpr c34
     have MI : (s0_0 != 3) = true := bne_iff_ne.mpr c34
     have HC50 := Z4b H
     clear H
     obtain ⟨HGz51, hgz51⟩ := cA.out
     have oG := cellS23_0 HGz51
     have pG := cellS23_1 HGz51
     have qG := cellS23_2 HGz51
     have rG := cellS23_3 HGz51
     have sG := cellS23_4 HGz51
     have tG := cellS23_5 HGz51
     have uG := cellS23_6 HGz51
     have vG := cellS23_7 HGz51
     have wG := cellS23_8 HGz51
     have xG := cellS23_9 HGz51
     have yG := Z4a HGz51 0
     have zG := Z4a HGz51 1
     have AG := Z4a HGz51 2
     have BG := Z4a HGz51 3
     have CG := Z4a HGz51 4
     have DG := Z4a HGz51 5
     have EG := Z4a HGz51 6
     have FG := Z4a HGz51 7
     have GG := Z4a HGz51 8
     have HG := Z4a HGz51 9
     clear HGz51 hgz51
     go_enter Try.func62, Try.ntmps62
     go_upto_region 23 with (fail)
     go_cut [122] (fun LK wc => ∃ (kq : Nat) (qA : Bool), LK = .bool qA ∧ Aside0 (impl_Call_liRead.j2 kq a2 qA s0_0 s0_1 s0_2 s0_3 s0_4 s0_5 s0_6 s0_7 s0_8 s0_9 = some (r1, r2, r3, r4, r5, r6, r7, r8, r9, r10)) ∧ Aside0 (kq ≤ k) ∧ Aside0 (IsS23 w0 wc g s0_0 s0_1 s0_2 s0_3 s0_4 s0_5 s0_6 s0_7 s0_8 s0_9) ∧ Aside0 (KeepBut w wc g none) ∧ Aside0 (Below w0.heap.size w0 wc))
     case first =>
      have H := HC50.out
      clear HC50
      by_cases c52 : s0_0 = 1
      ·rw [if_pos c52] at H
       have vA : (s0_0 == 1) = true := beq_iff_eq.mpr c52
       have PI : (s0_0 != 1) = false := bne_eq_false_iff_eq.mpr c52
       clear c52
       (first | rw [vA] | (simp only [i64_w, i32_w]; rw [vA]) | skip)
       by_cases c53 : a2 = s0_1
       ·rw [if_pos c53] at H
        have QI : (a2 == s0_1) = true := beq_iff_eq.mpr c53
        have RI : (a2 != s0_1) = false := bne_eq_false_iff_eq.mpr c53
        clear c53
        have H' := Z4b H
        clear H
        obtain ⟨HGz54, hgz54⟩ := cA.out
        have IG := cellS23_0 HGz54
        have JG := cellS23_1 HGz54
        have KG := cellS23_2 HGz54
        have LG := cellS23_3 HGz54
        have MG := cellS23_4 HGz54
        have NG := cellS23_5 HGz54
        have OG := cellS23_6 HGz54
        have PG := cellS23_7 HGz54
        have QG := cellS23_8 HGz54
        have RG := cellS23_9 HGz54
        have SG := Z4a HGz54 0
        have TG := Z4a HGz54 1
        have UG := Z4a HGz54 2
        have VG := Z4a HGz54 3
        have WG := Z4a HGz54 4
        have XG := Z4a HGz54 5
        have YG := Z4a HGz54 6
        have ZG := Z4a HGz54 7
        have aH := Z4a HGz54 8
        have bH := Z4a HGz54 9
        clear HGz54 hgz54
        go_wp2
        go_meet
        case rel => exact ⟨_, (true), Z4h, H', ⟨Z4i⟩, ⟨Z4c⟩, ⟨Z4d⟩, ⟨Z4e⟩⟩
       ·rw [if_neg c53] at H
        have QI : (a2 == s0_1) = false := beq_eq_false_iff_ne.mpr c53
        have RI : (a2 != s0_1) = true := bne_iff_ne.mpr c53
        by_cases c55 : s0_0 = 2
        ·rw [if_pos c55] at H
         have SI : (s0_0 == 2) = true := beq_iff_eq.mpr c55
         have TI : (s0_0 != 2) = false := bne_eq_false_iff_eq.mpr c55
         clear c55
         have H' := Z4b H
         clear H
         obtain ⟨HGz56, hgz56⟩ := cA.out
         have cH := cellS23_0 HGz56
         have dH := cellS23_1 HGz56
         have eH := cellS23_2 HGz56
         have fH := cellS23_3 HGz56
         have gH := cellS23_4 HGz56
         have hH := cellS23_5 HGz56
         have iH := cellS23_6 HGz56
         have jH := cellS23_7 HGz56
         have kH := cellS23_8 HGz56
         have lH := cellS23_9 HGz56
         have mH := Z4a HGz56 0
         have nH := Z4a HGz56 1
         have oH := Z4a HGz56 2
         have pH := Z4a HGz56 3
         have qH := Z4a HGz56 4
         have rH := Z4a HGz56 5
         have sH := Z4a HGz56 6
         have tH := Z4a HGz56 7
         have uH := Z4a HGz56 8
         have vH := Z4a HGz56 9
         clear HGz56 hgz56
         go_wp2
         go_meet
         case rel => exact ⟨_, ((a2 != s0_1)), Z4h, H', ⟨Z4i⟩, ⟨Z4c⟩, ⟨Z4d⟩, ⟨Z4e⟩⟩
        ·rw [if_neg c55] at H
         have SI : (s0_0 == 2) = false := beq_eq_false_iff_ne.mpr c55
         have TI : (s0_0 != 2) = true := bne_iff_ne.mpr c55
         have H' := Z4b H
         clear H
         obtain ⟨HGz57, hgz57⟩ := cA.out
         have wH := cellS23_0 HGz57
         have xH := cellS23_1 HGz57
         have yH := cellS23_2 HGz57
         have zH := cellS23_3 HGz57
         have AH := cellS23_4 HGz57
         have BH := cellS23_5 HGz57
         have CH := cellS23_6 HGz57
         have DH := cellS23_7 HGz57
         have EH := cellS23_8 HGz57
         have FH := cellS23_9 HGz57
         have GH := Z4a HGz57 0
         have HH := Z4a HGz57 1
         have IH := Z4a HGz57 2
         have JH := Z4a HGz57 3
         have KH := Z4a HGz57 4
         have LH := Z4a HGz57 5
         have MH := Z4a HGz57 6
         have NH := Z4a HGz57 7
         have OH := Z4a HGz57 8
         have PH := Z4a HGz57 9
         clear HGz57 hgz57
         go_wp2
         go_meet
         case rel => exact ⟨_, (false), Z4h, H', ⟨Z4i⟩, ⟨Z4c⟩, ⟨Z4d⟩, ⟨Z4e⟩⟩
      ·rw [if_neg c52] at H
       have vA : (s0_0 == 1) = false := beq_eq_false_iff_ne.mpr c52
       have PI : (s0_0 != 1) = true := bne_iff_ne.mpr c52
       (first | rw [vA] | (simp only [i64_w, i32_w]; rw [vA]) | skip)
       by_cases c58 : s0_0 = 2
       ·rw [if_pos c58] at H
        have UI : (s0_0 == 2) = true := beq_iff_eq.mpr c58
        have VI : (s0_0 != 2) = false := bne_eq_false_iff_eq.mpr c58
        clear c58
        have H' := Z4b H
        clear H
        obtain ⟨HGz59, hgz59⟩ := cA.out
        have QH := cellS23_0 HGz59
        have RH := cellS23_1 HGz59
        have SH := cellS23_2 HGz59
        have TH := cellS23_3 HGz59
        have UH := cellS23_4 HGz59
        have VH := cellS23_5 HGz59
        have WH := cellS23_6 HGz59
        have XH := cellS23_7 HGz59
        have YH := cellS23_8 HGz59
        have ZH := cellS23_9 HGz59
        have aI := Z4a HGz59 0
        have bI := Z4a HGz59 1
        have cI := Z4a HGz59 2
        have dI := Z4a HGz59 3
        have eI := Z4a HGz59 4
        have fI := Z4a HGz59 5
        have gI := Z4a HGz59 6
        have iI := Z4a HGz59 7
        have jI := Z4a HGz59 8
        have kI := Z4a HGz59 9
        clear HGz59 hgz59
        go_wp2
        go_meet
        case rel => exact ⟨_, ((a2 != s0_1)), Z4h, H', ⟨Z4i⟩, ⟨Z4c⟩, ⟨Z4d⟩, ⟨Z4e⟩⟩
       ·rw [if_neg c58] at H
        have UI : (s0_0 == 2) = false := beq_eq_false_iff_ne.mpr c58
        have VI : (s0_0 != 2) = true := bne_iff_ne.mpr c58
        have H' := Z4b H
        clear H
        obtain ⟨HGz60, hgz60⟩ := cA.out
        have lI := cellS23_0 HGz60
        have mI := cellS23_1 HGz60
        have nI := cellS23_2 HGz60
        have oI := cellS23_3 HGz60
        have pI := cellS23_4 HGz60
        have qI := cellS23_5 HGz60
        have rI := cellS23_6 HGz60
        have sI := cellS23_7 HGz60
        have tI := cellS23_8 HGz60
        have uI := cellS23_9 HGz60
        have vI := Z4a HGz60 0
        have wI := Z4a HGz60 1
        have xI := Z4a HGz60 2
        have yI := Z4a HGz60 3
        have zI := Z4a HGz60 4
        have AI := Z4a HGz60 5
        have BI := Z4a HGz60 6
        have CI := Z4a HGz60 7
        have DI := Z4a HGz60 8
        have EI := Z4a HGz60 9
        clear HGz60 hgz60
        go_wp2
        go_meet
        case rel => exact ⟨_, (false), Z4h, H', ⟨Z4i⟩, ⟨Z4c⟩, ⟨Z4d⟩, ⟨Z4e⟩⟩
     case rest =>
      clear HC50
      (try clear c1); (try clear c2); (try clear p2); (try clear c3); (try clear c4); (try clear IB); (try clear JB); (try clear c5); (try clear c6); (try clear c17); (try clear c20); (try clear FI); (try clear c23); (try clear GI); (try clear HI); (try clear c25); (try clear c26); (try clear II); (try clear JI); (try clear c30); (try clear KI); (try clear c34); (try clear LI); (try clear MI); (try clear c36); (try clear NI); (try clear OI); (try clear c38); (try clear c50); (try clear c52); (try clear vA); (try clear PI); (try clear c53); (try clear QI); (try clear RI); (try clear c55); (try clear SI); (try clear TI); (try clear c58); (try clear UI); (try clear VI); (try clear UB); (try clear VB); (try clear WB); (try clear XB); (try clear YB); (try clear ZB); (try clear aC); (try clear bC); (try clear cC); (try clear dC); (try clear oC); (try clear pC); (try clear qC); (try clear rC); (try clear sC); (try clear tC); (try clear uC); (try clear vC); (try clear wC); (try clear xC); (try clear IC); (try clear JC); (try clear KC); (try clear LC); (try clear MC); (try clear NC); (try clear OC); (try clear PC); (try clear QC); (try clear RC); (try clear cD); (try clear dD); (try clear eD); (try clear fD); (try clear gD); (try clear hD); (try clear iD); (try clear jD); (try clear kD); (try clear lD); (try clear wD); (try clear xD); (try clear yD); (try clear zD); (try clear AD); (try clear BD); (try clear CD); (try clear DD); (try clear ED); (try clear FD); (try clear YD); (try clear ZD); (try clear aE); (try clear bE); (try clear cE); (try clear dE); (try clear eE); (try clear fE); (try clear gE); (try clear hE); (try clear sE); (try clear tE); (try clear uE); (try clear vE); (try clear wE); (try clear xE); (try clear yE); (try clear zE); (try clear AE); (try clear BE); (try clear ME); (try clear NE); (try clear OE); (try clear PE); (try clear QE); (try clear RE); (try clear SE); (try clear TE); (try clear UE); (try clear VE); (try clear gF); (try clear hF); (try clear iF); (try clear jF); (try clear kF); (try clear lF); (try clear mF); (try clear nF); (try clear oF); (try clear pF); (try clear AF); (try clear BF); (try clear CF); (try clear DF); (try clear EF); (try clear FF); (try clear GF); (try clear HF); (try clear IF); (try clear JF); (try clear UF); (try clear VF); (try clear WF); (try clear XF); (try clear YF); (try clear ZF); (try clear aG); (try clear bG); (try clear cG); (try clear dG); (try clear oG); (try clear pG); (try clear qG); (try clear rG); (try clear sG); (try clear tG); (try clear uG); (try clear vG); (try clear wG); (try clear xG); (try clear IG); (try clear JG); (try clear KG); (try clear LG); (try clear MG); (try clear NG); (try clear OG); (try clear PG); (try clear QG); (try clear RG); (try clear cH); (try clear dH); (try clear eH); (try clear fH); (try clear gH); (try clear hH); (try clear iH); (try clear jH); (try clear kH); (try clear lH); (try clear wH); (try clear xH); (try clear yH); (try clear zH); (try clear AH); (try clear BH); (try clear CH); (try clear DH); (try clear EH); (try clear FH); (try clear QH); (try clear RH); (try clear SH); (try clear TH); (try clear UH); (try clear VH); (try clear WH); (try clear XH); (try clear YH); (try clear ZH); (try clear lI); (try clear mI); (try clear nI); (try clear oI); (try clear pI); (try clear qI); (try clear rI); (try clear sI); (try clear tI); (try clear uI); (try clear MA); (try clear NA); (try clear OA); (try clear aB); (try clear bB); (try clear cB); (try clear dB); (try clear eB); (try clear fB); (try clear gB); (try clear iB); (try clear jB); (try clear kB); (try clear eC); (try clear fC); (try clear gC); (try clear hC); (try clear iC); (try clear jC); (try clear kC); (try clear lC); (try clear mC); (try clear nC); (try clear yC); (try clear zC); (try clear AC); (try clear BC); (try clear CC); (try clear DC); (try clear EC); (try clear FC); (try clear GC); (try clear HC); (try clear SC); (try clear TC); (try clear UC); (try clear VC); (try clear WC); (try clear XC); (try clear YC); (try clear ZC); (try clear aD); (try clear bD); (try clear mD); (try clear nD); (try clear oD); (try clear pD); (try clear qD); (try clear rD); (try clear sD); (try clear tD); (try clear uD); (try clear vD); (try clear GD); (try clear HD); (try clear ID); (try clear JD); (try clear KD); (try clear LD); (try clear MD); (try clear ND); (try clear OD); (try clear PD); (try clear iE); (try clear jE); (try clear kE); (try clear lE); (try clear mE); (try clear nE); (try clear oE); (try clear pE); (try clear qE); (try clear rE); (try clear CE); (try clear DE); (try clear EE); (try clear FE); (try clear GE); (try clear HE); (try clear IE); (try clear JE); (try clear KE); (try clear LE); (try clear WE); (try clear XE); (try clear YE); (try clear ZE); (try clear aF); (try clear bF); (try clear cF); (try clear dF); (try clear eF); (try clear fF); (try clear qF); (try clear rF); (try clear sF); (try clear tF); (try clear uF); (try clear vF); (try clear wF); (try clear xF); (try clear yF); (try clear zF); (try clear KF); (try clear LF); (try clear MF); (try clear NF); (try clear OF); (try clear PF); (try clear QF); (try clear RF); (try clear SF); (try clear TF); (try clear eG); (try clear fG); (try clear gG); (try clear hG); (try clear iG); (try clear jG); (try clear kG); (try clear lG); (try clear mG); (try clear nG); (try clear yG); (try clear zG); (try clear AG); (try clear BG); (try clear CG); (try clear DG); (try clear EG); (try clear FG); (try clear GG); (try clear HG); (try clear SG); (try clear TG); (try clear UG); (try clear VG); (try clear WG); (try clear XG); (try clear YG); (try clear ZG); (try clear aH); (try clear bH); (try clear mH); (try clear nH); (try clear oH); (try clear pH); (try clear qH); (try clear rH); (try clear sH); (try clear tH); (try clear uH); (try clear vH); (try clear GH); (try clear HH); (try clear IH); (try clear JH); (try clear KH); (try clear LH); (try clear MH); (try clear NH); (try clear OH); (try clear PH); (try clear aI); (try clear bI); (try clear cI); (try clear dI); (try clear eI); (try clear fI); (try clear gI); (try clear iI); (try clear jI); (try clear kI); (try clear vI); (try clear wI); (try clear xI); (try clear yI); (try clear zI); (try clear AI); (try clear BI); (try clear CI); (try clear DI); (try clear EI); (try clear BA); (try clear CA); (try clear DA); (try clear EA); (try clear FA); (try clear GA); (try clear IA); (try clear JA); (try clear KA); (try clear LA); (try clear PA); (try clear QA); (try clear RA); (try clear SA); (try clear TA); (try clear UA); (try clear VA); (try clear WA); (try clear XA); (try clear YA); (try clear p2)
      obtain ⟨kq, qA, rfl, HA, HJ49, cA, HK, HB⟩ := hcut
      cases kq with
      | zero => exact absurd HA.out (by simp [impl_Call_liRead.j2])
      | succ kj49 =>
       have H := HA.out
       clear HA
       simp only [impl_Call_liRead.j2] at H
       by_cases c61 : qA = true
       ·subst c61
        rw [if_pos rfl] at H
        replace H := Option.bind_eq_some_iff.mp H
        obtain ⟨⟨MK, NK, OK, PK, QK, RK, SK, TK, UK, VK⟩, A620, H⟩ := H
        (try dsimp only at H)
        have A62 := Z4b A620
        clear A620
        simp only [Option.some.injEq, Prod.mk.injEq] at H
        obtain ⟨rfl, rfl, rfl, rfl, rfl, rfl, rfl, rfl, rfl, rfl⟩ := H
        obtain ⟨HGz63, hgz63⟩ := cA.out
        have YI := cellS23_0 HGz63
        have ZI := cellS23_1 HGz63
        have aJ := cellS23_2 HGz63
        have bJ := cellS23_3 HGz63
        have cJ := cellS23_4 HGz63
        have dJ := cellS23_5 HGz63
        have eJ := cellS23_6 HGz63
        have fJ := cellS23_7 HGz63
        have gJ := cellS23_8 HGz63
        have hJ := cellS23_9 HGz63
        have iJ := Z4a HGz63 0
        have jJ := Z4a HGz63 1
        have kJ := Z4a HGz63 2
        have lJ := Z4a HGz63 3
        have mJ := Z4a HGz63 4
        have nJ := Z4a HGz63 5
        have oJ := Z4a HGz63 6
        have pJ := Z4a HGz63 7
        have qJ := Z4a HGz63 8
        have rJ := Z4a HGz63 9
        clear HGz63 hgz63
        go_wp2_with (first | ((with_reducible refine gate_callee (f := 64) rfl ?_); refine goesL_ (some 156) rfl rfl Try.func64 (by kernel_rfl) rfl #[.pointer (some ⟨g, 0, none⟩), .int .i64 4] rfl Z4f ?_; (with_reducible refine (impl_Call_end.calls g s0_0 s0_1 s0_2 s0_3 s0_4 s0_5 s0_6 s0_7 a2 s0_9 4 MK NK OK PK QK RK SK TK UK VK w0 _ ?side1 ?side2 A62.out).mono ?_); (case side1 => exact Z4c); (case side2 => exact Z4e); rintro e cL ⟨rfl, hi, hb, hk⟩; refine ⟨_, rfl, ?_⟩; have rA := Z4b (KeepBut.trans Z4d hk (.inl rfl)); have sA := Z4b (hb); have tA := Z4b (hi); clear HK HB cA; have HK := rA; have HB := sA; have cA := tA; clear rA sA tA; (try clear hb); (try clear hb2); (try clear hk); (try clear hi)))
        first | go_end0 | ((try simp only [Exit.inBlock, Exit.then]); refine bodyPost_ret (results_none rfl _ _ _) rfl ?_)
        exact ⟨Z4g, Z4c, Z4e, Z4d⟩
       ·replace c61 := Bool.eq_false_iff.mpr c61
        subst c61
        rw [if_neg (show ¬ (false = true) by decide)] at H
        by_cases c65 : s0_0 = 1
        ·rw [if_pos c65] at H
         have WI : (s0_0 == 1) = true := beq_iff_eq.mpr c65
         have XI : (s0_0 != 1) = false := bne_eq_false_iff_eq.mpr c65
         clear c65
         simp only [Option.some.injEq, Prod.mk.injEq] at H
         obtain ⟨rfl, rfl, rfl, rfl, rfl, rfl, rfl, rfl, rfl, rfl⟩ := H
         obtain ⟨HGz66, hgz66⟩ := cA.out
         have sJ := cellS23_0 HGz66
         have tJ := cellS23_1 HGz66
         have uJ := cellS23_2 HGz66
         have vJ := cellS23_3 HGz66
         have wJ := cellS23_4 HGz66
         have xJ := cellS23_5 HGz66
         have yJ := cellS23_6 HGz66
         have zJ := cellS23_7 HGz66
         have AJ := cellS23_8 HGz66
         have BJ := cellS23_9 HGz66
         have CJ := Z4a HGz66 0
         have DJ := Z4a HGz66 1
         have EJ := Z4a HGz66 2
         have FJ := Z4a HGz66 3
         have GJ := Z4a HGz66 4
         have HJ := Z4a HGz66 5
         have IJ := Z4a HGz66 6
         have JJ := Z4a HGz66 7
         have KJ := Z4a HGz66 8
         have LJ := Z4a HGz66 9
         clear HGz66 hgz66
         go_wp2
         first | go_end0 | ((try simp only [Exit.inBlock, Exit.then]); refine bodyPost_ret (results_none rfl _ _ _) rfl ?_)
         exact ⟨Z4g, Z4c, Z4e, Z4d⟩
        ·rw [if_neg c65] at H
         have WI : (s0_0 == 1) = false := beq_eq_false_iff_ne.mpr c65
         have XI : (s0_0 != 1) = true := bne_iff_ne.mpr c65
         simp only [Option.some.injEq, Prod.mk.injEq] at H
         obtain ⟨rfl, rfl, rfl, rfl, rfl, rfl, rfl, rfl, rfl, rfl⟩ := H
         obtain ⟨HGz67, hgz67⟩ := cA.out
         have MJ := cellS23_0 HGz67
         have NJ := cellS23_1 HGz67
         have OJ := cellS23_2 HGz67
         have PJ := cellS23_3 HGz67
         have QJ := cellS23_4 HGz67
         have RJ := cellS23_5 HGz67
         have SJ := cellS23_6 HGz67
         have TJ := cellS23_7 HGz67
         have UJ := cellS23_8 HGz67
         have VJ := cellS23_9 HGz67
         have WJ := Z4a HGz67 0
         have XJ := Z4a HGz67 1
         have YJ := Z4a HGz67 2
         have ZJ := Z4a HGz67 3
         have aK := Z4a HGz67 4
         have bK := Z4a HGz67 5
         have cK := Z4a HGz67 6
         have dK := Z4a HGz67 7
         have eK := Z4a HGz67 8
         have fK := Z4a HGz67 9
         clear HGz67 hgz67
         go_wp2
         first | go_end0 | ((try simp only [Exit.inBlock, Exit.then]); refine bodyPost_ret (results_none rfl _ _ _) rfl ?_)
         exact ⟨Z4g, Z4c, Z4e, Z4d⟩

end Go.Proofs.Ytjikobdblohphaa.PFnListOne
