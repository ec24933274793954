/-
  No cell of these rows narrows 'for every input' (looked for: loops, veiled, ifaces, maps, wideKeys, modest, calm, conditions, laid).
  DERIVED. THE GIVEN ROWS OF THIS SEAT. 8 by the template 'for every input the law returns true; each argument reads behind the call as it read before'; 0 by the template 'total and deterministic' (their statements: YtjikobdblohphaaTotals.lean).
  GIVEN WITH THE SEED: the statements are not yours to turn. If you find one false, say at which input.
  Laid BY PROGRAM, IN A SANDBOX (cutbox-rows.mjs): the forced cells as the released guide's own fill.sh prints them over the translation e4ba434bdc5209a6… (all of the seat's roots in one cut). By AI agents, Wed Nov 11 2026. No macro, syntax, notation, axiom, sorry.
-/
import Derived.Test.YtjikobdblohphaaChecked
import GoSem.Claim
import GoSem.ClaimJoined
import GoSem.ClaimMapViews
import Derived.JoinedTies
import Derived.KernelRfl
namespace Go.Proofs.Ytjikobdblohphaa
/- THE CELL 'sum', in the pinned program and in every row, IS THE sha256 OF THE DUMP (.gsa) THAT YtjikobdblohphaaProg.lean LOADS. Nothing in Lean hashes anything: it is a label: what it is worth is what the hold of that sum in a sandbox is worth. -/
noncomputable def Try.pinned : Pinned := { name := "ytjikobdblohphaa", sum := "e4ba434bdc5209a663b2326c0c2b95ed34f94f4488fb4a508f39db1da886feb9", checked := Try.checked }
namespace Rows
def none {H : Type} : Left H := { results := [], args := [] }

/-- 'laws.FnExactLiCall': WHATEVER THE INPUT: true; the input reads as it did. -/
def fnExactLiCallSpec : ChangeSpec := { name := "fnExactLiCall", fn := fun _ => fun
  | [d1, d2, d3] => { results := [.lit (.bool true)], args := [d1, d2, d3] }
  | _ => none }
def fnExactLiCallRow : OpenClaim := { program := "ytjikobdblohphaa", sum := "e4ba434bdc5209a663b2326c0c2b95ed34f94f4488fb4a508f39db1da886feb9", func := "loop.example/g00724/laws.FnExactLiCall", spec := "fnExactLiCall", apart := false }
def FnExactLiCallSaid : Prop := fnExactLiCallRow.holds Try.pinned (OpenSpec.ofChange fnExactLiCallSpec)

/-- ITS FALSE NEIGHBOUR: 'it returns false'. Refute it at one input. -/
def fnExactLiCallWrong : ChangeSpec := { name := "fnExactLiCall", fn := fun _ => fun
  | [d1, d2, d3] => { results := [.lit (.bool false)], args := [d1, d2, d3] }
  | _ => none }
def FnExactLiCallWrongFalsely : Prop := fnExactLiCallRow.holds Try.pinned (OpenSpec.ofChange fnExactLiCallWrong)

/-- 'laws.FnExactLiNew': WHATEVER THE INPUT: true; the input reads as it did. -/
def fnExactLiNewSpec : ChangeSpec := { name := "fnExactLiNew", fn := fun _ => fun
  | [d] => { results := [.lit (.bool true)], args := [d] }
  | _ => none }
def fnExactLiNewRow : OpenClaim := { program := "ytjikobdblohphaa", sum := "e4ba434bdc5209a663b2326c0c2b95ed34f94f4488fb4a508f39db1da886feb9", func := "loop.example/g00724/laws.FnExactLiNew", spec := "fnExactLiNew", apart := false }
def FnExactLiNewSaid : Prop := fnExactLiNewRow.holds Try.pinned (OpenSpec.ofChange fnExactLiNewSpec)

/-- ITS FALSE NEIGHBOUR: 'it returns false'. Refute it at one input. -/
def fnExactLiNewWrong : ChangeSpec := { name := "fnExactLiNew", fn := fun _ => fun
  | [d] => { results := [.lit (.bool false)], args := [d] }
  | _ => none }
def FnExactLiNewWrongFalsely : Prop := fnExactLiNewRow.holds Try.pinned (OpenSpec.ofChange fnExactLiNewWrong)

/-- 'laws.FnExactLiAct': WHATEVER THE INPUT: true; the input reads as it did. -/
def fnExactLiActSpec : ChangeSpec := { name := "fnExactLiAct", fn := fun _ => fun
  | [d1, d2] => { results := [.lit (.bool true)], args := [d1, d2] }
  | _ => none }
def fnExactLiActRow : OpenClaim := { program := "ytjikobdblohphaa", sum := "e4ba434bdc5209a663b2326c0c2b95ed34f94f4488fb4a508f39db1da886feb9", func := "loop.example/g00724/laws.FnExactLiAct", spec := "fnExactLiAct", apart := false }
def FnExactLiActSaid : Prop := fnExactLiActRow.holds Try.pinned (OpenSpec.ofChange fnExactLiActSpec)

/-- ITS FALSE NEIGHBOUR: 'it returns false'. Refute it at one input. -/
def fnExactLiActWrong : ChangeSpec := { name := "fnExactLiAct", fn := fun _ => fun
  | [d1, d2] => { results := [.lit (.bool false)], args := [d1, d2] }
  | _ => none }
def FnExactLiActWrongFalsely : Prop := fnExactLiActRow.holds Try.pinned (OpenSpec.ofChange fnExactLiActWrong)

/-- 'laws.FnExactLiStep': WHATEVER THE INPUT: true; the input reads as it did. -/
def fnExactLiStepSpec : ChangeSpec := { name := "fnExactLiStep", fn := fun _ => fun
  | [d1, d2, d3] => { results := [.lit (.bool true)], args := [d1, d2, d3] }
  | _ => none }
def fnExactLiStepRow : OpenClaim := { program := "ytjikobdblohphaa", sum := "e4ba434bdc5209a663b2326c0c2b95ed34f94f4488fb4a508f39db1da886feb9", func := "loop.example/g00724/laws.FnExactLiStep", spec := "fnExactLiStep", apart := false }
def FnExactLiStepSaid : Prop := fnExactLiStepRow.holds Try.pinned (OpenSpec.ofChange fnExactLiStepSpec)

/-- ITS FALSE NEIGHBOUR: 'it returns false'. Refute it at one input. -/
def fnExactLiStepWrong : ChangeSpec := { name := "fnExactLiStep", fn := fun _ => fun
  | [d1, d2, d3] => { results := [.lit (.bool false)], args := [d1, d2, d3] }
  | _ => none }
def FnExactLiStepWrongFalsely : Prop := fnExactLiStepRow.holds Try.pinned (OpenSpec.ofChange fnExactLiStepWrong)

/-- 'laws.FnExactLiKeys': WHATEVER THE INPUT: true; the input reads as it did. -/
def fnExactLiKeysSpec : ChangeSpec := { name := "fnExactLiKeys", fn := fun _ => fun
  | [d1, d2] => { results := [.lit (.bool true)], args := [d1, d2] }
  | _ => none }
def fnExactLiKeysRow : OpenClaim := { program := "ytjikobdblohphaa", sum := "e4ba434bdc5209a663b2326c0c2b95ed34f94f4488fb4a508f39db1da886feb9", func := "loop.example/g00724/laws.FnExactLiKeys", spec := "fnExactLiKeys", apart := false }
def FnExactLiKeysSaid : Prop := fnExactLiKeysRow.holds Try.pinned (OpenSpec.ofChange fnExactLiKeysSpec)

/-- ITS FALSE NEIGHBOUR: 'it returns false'. Refute it at one input. -/
def fnExactLiKeysWrong : ChangeSpec := { name := "fnExactLiKeys", fn := fun _ => fun
  | [d1, d2] => { results := [.lit (.bool false)], args := [d1, d2] }
  | _ => none }
def FnExactLiKeysWrongFalsely : Prop := fnExactLiKeysRow.holds Try.pinned (OpenSpec.ofChange fnExactLiKeysWrong)

/-- 'laws.FnExactStApply': WHATEVER THE INPUT: true; the input reads as it did. -/
def fnExactStApplySpec : ChangeSpec := { name := "fnExactStApply", fn := fun _ => fun
  | [d1, d2] => { results := [.lit (.bool true)], args := [d1, d2] }
  | _ => none }
def fnExactStApplyRow : OpenClaim := { program := "ytjikobdblohphaa", sum := "e4ba434bdc5209a663b2326c0c2b95ed34f94f4488fb4a508f39db1da886feb9", func := "loop.example/g00724/laws.FnExactStApply", spec := "fnExactStApply", apart := false }
def FnExactStApplySaid : Prop := fnExactStApplyRow.holds Try.pinned (OpenSpec.ofChange fnExactStApplySpec)

/-- ITS FALSE NEIGHBOUR: 'it returns false'. Refute it at one input. -/
def fnExactStApplyWrong : ChangeSpec := { name := "fnExactStApply", fn := fun _ => fun
  | [d1, d2] => { results := [.lit (.bool false)], args := [d1, d2] }
  | _ => none }
def FnExactStApplyWrongFalsely : Prop := fnExactStApplyRow.holds Try.pinned (OpenSpec.ofChange fnExactStApplyWrong)

/-- 'laws.FnExactLiApply': WHATEVER THE INPUT: true; the input reads as it did. -/
def fnExactLiApplySpec : ChangeSpec := { name := "fnExactLiApply", fn := fun _ => fun
  | [d1, d2] => { results := [.lit (.bool true)], args := [d1, d2] }
  | _ => none }
def fnExactLiApplyRow : OpenClaim := { program := "ytjikobdblohphaa", sum := "e4ba434bdc5209a663b2326c0c2b95ed34f94f4488fb4a508f39db1da886feb9", func := "loop.example/g00724/laws.FnExactLiApply", spec := "fnExactLiApply", inPlace := ["slices.overlaps[int]"], unfollowed := true, recurses := true, apart := false }
def FnExactLiApplySaid : Prop := fnExactLiApplyRow.holds Try.pinned (OpenSpec.ofChange fnExactLiApplySpec)

/-- ITS FALSE NEIGHBOUR: 'it returns false'. Refute it at one input. -/
def fnExactLiApplyWrong : ChangeSpec := { name := "fnExactLiApply", fn := fun _ => fun
  | [d1, d2] => { results := [.lit (.bool false)], args := [d1, d2] }
  | _ => none }
def FnExactLiApplyWrongFalsely : Prop := fnExactLiApplyRow.holds Try.pinned (OpenSpec.ofChange fnExactLiApplyWrong)

/-- 'laws.FnListOne': WHATEVER THE INPUT: true; the input reads as it did. -/
def fnListOneSpec : ChangeSpec := { name := "fnListOne", fn := fun _ => fun
  | [d] => { results := [.lit (.bool true)], args := [d] }
  | _ => none }
def fnListOneRow : OpenClaim := { program := "ytjikobdblohphaa", sum := "e4ba434bdc5209a663b2326c0c2b95ed34f94f4488fb4a508f39db1da886feb9", func := "loop.example/g00724/laws.FnListOne", spec := "fnListOne", inPlace := ["slices.overlaps[int]"], unfollowed := true, recurses := true, apart := false }
def FnListOneSaid : Prop := fnListOneRow.holds Try.pinned (OpenSpec.ofChange fnListOneSpec)

/-- ITS FALSE NEIGHBOUR: 'it returns false'. Refute it at one input. -/
def fnListOneWrong : ChangeSpec := { name := "fnListOne", fn := fun _ => fun
  | [d] => { results := [.lit (.bool false)], args := [d] }
  | _ => none }
def FnListOneWrongFalsely : Prop := fnListOneRow.holds Try.pinned (OpenSpec.ofChange fnListOneWrong)

/- THE SECOND FORM. 'bulk': how many values and letters a reading holds, each counted each time it is reached (what is shared counts as often as it is met; a slice's spare places count too). A statement '..UptoSaid' is the law's where the arguments, and the package variables that the reading takes, are together of bulk at most 1048576: NARROWER than '..Said'. Prove '..Said' where nothing that the law and all that it calls make is longer than what came in: it says more and counts as full. Else prove '..UptoSaid'. A law counts once. -/
mutual
def uptoBulk {H : Type} : DataW H → Nat
  | .lit (.string bytes) => bytes.length + 1
  | .lit _ => 1
  | .nil => 1
  | .ptr d => uptoBulk d + 1
  | .slice elems spare => uptoBulkAll elems + uptoBulkAll spare + 1
  | .agg parts => uptoBulkAll parts + 1
  | .iface _ d => uptoBulk d + 1
  | .map entries => uptoBulkEntries entries + 1
  | .held _ => 1
def uptoBulkAll {H : Type} : List (DataW H) → Nat
  | [] => 0
  | d :: r => uptoBulk d + uptoBulkAll r
def uptoBulkEntries {H : Type} : List (Lit × DataW H) → Nat
  | [] => 0
  | x :: r => uptoBulkEntry x + uptoBulkEntries r
def uptoBulkEntry {H : Type} : Lit × DataW H → Nat
  | (.string bytes, d) => bytes.length + uptoBulk d + 1
  | (_, d) => uptoBulk d + 1
 end
def uptoSmall : (H : Type) → List (DataW H) → Bool := fun _ ds => decide (uptoBulkAll ds ≤ 1048576)
def OpenSpec.upto (s : _root_.Go.ChangeSpec) : _root_.Go.OpenSpec := { _root_.Go.OpenSpec.ofChange s with cond := some uptoSmall }

/-- 'laws.FnExactLiCall', WHERE WHAT IT READS IS OF BULK AT MOST 1048576: true; the input reads as it did. -/
def fnExactLiCallUptoRow : OpenClaim := { program := "ytjikobdblohphaa", sum := "e4ba434bdc5209a663b2326c0c2b95ed34f94f4488fb4a508f39db1da886feb9", func := "loop.example/g00724/laws.FnExactLiCall", spec := "fnExactLiCall", apart := false, narrowed := true }
def FnExactLiCallUptoSaid : Prop := fnExactLiCallUptoRow.holds Try.pinned (OpenSpec.upto fnExactLiCallSpec)

/-- 'laws.FnExactLiNew', WHERE WHAT IT READS IS OF BULK AT MOST 1048576: true; the input reads as it did. -/
def fnExactLiNewUptoRow : OpenClaim := { program := "ytjikobdblohphaa", sum := "e4ba434bdc5209a663b2326c0c2b95ed34f94f4488fb4a508f39db1da886feb9", func := "loop.example/g00724/laws.FnExactLiNew", spec := "fnExactLiNew", apart := false, narrowed := true }
def FnExactLiNewUptoSaid : Prop := fnExactLiNewUptoRow.holds Try.pinned (OpenSpec.upto fnExactLiNewSpec)

/-- 'laws.FnExactLiAct', WHERE WHAT IT READS IS OF BULK AT MOST 1048576: true; the input reads as it did. -/
def fnExactLiActUptoRow : OpenClaim := { program := "ytjikobdblohphaa", sum := "e4ba434bdc5209a663b2326c0c2b95ed34f94f4488fb4a508f39db1da886feb9", func := "loop.example/g00724/laws.FnExactLiAct", spec := "fnExactLiAct", apart := false, narrowed := true }
def FnExactLiActUptoSaid : Prop := fnExactLiActUptoRow.holds Try.pinned (OpenSpec.upto fnExactLiActSpec)

/-- 'laws.FnExactLiStep', WHERE WHAT IT READS IS OF BULK AT MOST 1048576: true; the input reads as it did. -/
def fnExactLiStepUptoRow : OpenClaim := { program := "ytjikobdblohphaa", sum := "e4ba434bdc5209a663b2326c0c2b95ed34f94f4488fb4a508f39db1da886feb9", func := "loop.example/g00724/laws.FnExactLiStep", spec := "fnExactLiStep", apart := false, narrowed := true }
def FnExactLiStepUptoSaid : Prop := fnExactLiStepUptoRow.holds Try.pinned (OpenSpec.upto fnExactLiStepSpec)

/-- 'laws.FnExactLiKeys', WHERE WHAT IT READS IS OF BULK AT MOST 1048576: true; the input reads as it did. -/
def fnExactLiKeysUptoRow : OpenClaim := { program := "ytjikobdblohphaa", sum := "e4ba434bdc5209a663b2326c0c2b95ed34f94f4488fb4a508f39db1da886feb9", func := "loop.example/g00724/laws.FnExactLiKeys", spec := "fnExactLiKeys", apart := false, narrowed := true }
def FnExactLiKeysUptoSaid : Prop := fnExactLiKeysUptoRow.holds Try.pinned (OpenSpec.upto fnExactLiKeysSpec)

/-- 'laws.FnExactStApply', WHERE WHAT IT READS IS OF BULK AT MOST 1048576: true; the input reads as it did. -/
def fnExactStApplyUptoRow : OpenClaim := { program := "ytjikobdblohphaa", sum := "e4ba434bdc5209a663b2326c0c2b95ed34f94f4488fb4a508f39db1da886feb9", func := "loop.example/g00724/laws.FnExactStApply", spec := "fnExactStApply", apart := false, narrowed := true }
def FnExactStApplyUptoSaid : Prop := fnExactStApplyUptoRow.holds Try.pinned (OpenSpec.upto fnExactStApplySpec)

/-- 'laws.FnExactLiApply', WHERE WHAT IT READS IS OF BULK AT MOST 1048576: true; the input reads as it did. -/
def fnExactLiApplyUptoRow : OpenClaim := { program := "ytjikobdblohphaa", sum := "e4ba434bdc5209a663b2326c0c2b95ed34f94f4488fb4a508f39db1da886feb9", func := "loop.example/g00724/laws.FnExactLiApply", spec := "fnExactLiApply", inPlace := ["slices.overlaps[int]"], unfollowed := true, recurses := true, apart := false, narrowed := true }
def FnExactLiApplyUptoSaid : Prop := fnExactLiApplyUptoRow.holds Try.pinned (OpenSpec.upto fnExactLiApplySpec)

/-- 'laws.FnListOne', WHERE WHAT IT READS IS OF BULK AT MOST 1048576: true; the input reads as it did. -/
def fnListOneUptoRow : OpenClaim := { program := "ytjikobdblohphaa", sum := "e4ba434bdc5209a663b2326c0c2b95ed34f94f4488fb4a508f39db1da886feb9", func := "loop.example/g00724/laws.FnListOne", spec := "fnListOne", inPlace := ["slices.overlaps[int]"], unfollowed := true, recurses := true, apart := false, narrowed := true }
def FnListOneUptoSaid : Prop := fnListOneUptoRow.holds Try.pinned (OpenSpec.upto fnListOneSpec)

end Rows
end Go.Proofs.Ytjikobdblohphaa
