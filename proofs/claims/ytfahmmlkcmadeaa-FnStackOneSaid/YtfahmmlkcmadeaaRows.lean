/-
  No cell of these rows narrows 'for every input' (looked for: loops, veiled, ifaces, maps, wideKeys, modest, calm, conditions, laid).
  DERIVED. THE GIVEN ROWS OF THIS SEAT. 12 by the template 'for every input the law returns true; each argument reads behind the call as it read before'; 0 by the template 'total and deterministic' (their statements: YtfahmmlkcmadeaaTotals.lean).
  GIVEN WITH THE SEED: the statements are not yours to turn. If you find one false, say at which input.
  Laid BY PROGRAM, IN A SANDBOX (cutbox-rows.mjs): the forced cells as the released guide's own fill.sh prints them over the translation b62f7f996b0e627e… (all of the seat's roots in one cut). By AI agents, Wed Nov 11 2026. No macro, syntax, notation, axiom, sorry.
-/
import Derived.Test.YtfahmmlkcmadeaaChecked
import GoSem.Claim
import GoSem.ClaimJoined
import GoSem.ClaimMapViews
import Derived.JoinedTies
import Derived.KernelRfl
namespace Go.Proofs.Ytfahmmlkcmadeaa
/- THE CELL 'sum', in the pinned program and in every row, IS THE sha256 OF THE DUMP (.gsa) THAT YtfahmmlkcmadeaaProg.lean LOADS. Nothing in Lean hashes anything: it is a label: what it is worth is what the hold of that sum in a sandbox is worth. -/
noncomputable def Try.pinned : Pinned := { name := "ytfahmmlkcmadeaa", sum := "b62f7f996b0e627e7ef4db9e6285eda391065b5cd0385f09041bee52f306e7b7", checked := Try.checked }
namespace Rows
def none {H : Type} : Left H := { results := [], args := [] }

/-- 'laws.FnExactStCall': WHATEVER THE INPUT: true; the input reads as it did. -/
def fnExactStCallSpec : ChangeSpec := { name := "fnExactStCall", fn := fun _ => fun
  | [d1, d2] => { results := [.lit (.bool true)], args := [d1, d2] }
  | _ => none }
def fnExactStCallRow : OpenClaim := { program := "ytfahmmlkcmadeaa", sum := "b62f7f996b0e627e7ef4db9e6285eda391065b5cd0385f09041bee52f306e7b7", func := "loop.example/g00724/laws.FnExactStCall", spec := "fnExactStCall", apart := false }
def FnExactStCallSaid : Prop := fnExactStCallRow.holds Try.pinned (OpenSpec.ofChange fnExactStCallSpec)

/-- ITS FALSE NEIGHBOUR: 'it returns false'. Refute it at one input. -/
def fnExactStCallWrong : ChangeSpec := { name := "fnExactStCall", fn := fun _ => fun
  | [d1, d2] => { results := [.lit (.bool false)], args := [d1, d2] }
  | _ => none }
def FnExactStCallWrongFalsely : Prop := fnExactStCallRow.holds Try.pinned (OpenSpec.ofChange fnExactStCallWrong)

/-- 'laws.FnExactStNew': WHATEVER THE INPUT: true; the input reads as it did. -/
def fnExactStNewSpec : ChangeSpec := { name := "fnExactStNew", fn := fun _ => fun
  | [d1, d2] => { results := [.lit (.bool true)], args := [d1, d2] }
  | _ => none }
def fnExactStNewRow : OpenClaim := { program := "ytfahmmlkcmadeaa", sum := "b62f7f996b0e627e7ef4db9e6285eda391065b5cd0385f09041bee52f306e7b7", func := "loop.example/g00724/laws.FnExactStNew", spec := "fnExactStNew", apart := false }
def FnExactStNewSaid : Prop := fnExactStNewRow.holds Try.pinned (OpenSpec.ofChange fnExactStNewSpec)

/-- ITS FALSE NEIGHBOUR: 'it returns false'. Refute it at one input. -/
def fnExactStNewWrong : ChangeSpec := { name := "fnExactStNew", fn := fun _ => fun
  | [d1, d2] => { results := [.lit (.bool false)], args := [d1, d2] }
  | _ => none }
def FnExactStNewWrongFalsely : Prop := fnExactStNewRow.holds Try.pinned (OpenSpec.ofChange fnExactStNewWrong)

/-- 'laws.FnExactStAct': WHATEVER THE INPUT: true; the input reads as it did. -/
def fnExactStActSpec : ChangeSpec := { name := "fnExactStAct", fn := fun _ => fun
  | [d1, d2] => { results := [.lit (.bool true)], args := [d1, d2] }
  | _ => none }
def fnExactStActRow : OpenClaim := { program := "ytfahmmlkcmadeaa", sum := "b62f7f996b0e627e7ef4db9e6285eda391065b5cd0385f09041bee52f306e7b7", func := "loop.example/g00724/laws.FnExactStAct", spec := "fnExactStAct", apart := false }
def FnExactStActSaid : Prop := fnExactStActRow.holds Try.pinned (OpenSpec.ofChange fnExactStActSpec)

/-- ITS FALSE NEIGHBOUR: 'it returns false'. Refute it at one input. -/
def fnExactStActWrong : ChangeSpec := { name := "fnExactStAct", fn := fun _ => fun
  | [d1, d2] => { results := [.lit (.bool false)], args := [d1, d2] }
  | _ => none }
def FnExactStActWrongFalsely : Prop := fnExactStActRow.holds Try.pinned (OpenSpec.ofChange fnExactStActWrong)

/-- 'laws.FnExactStStep': WHATEVER THE INPUT: true; the input reads as it did. -/
def fnExactStStepSpec : ChangeSpec := { name := "fnExactStStep", fn := fun _ => fun
  | [d1, d2, d3] => { results := [.lit (.bool true)], args := [d1, d2, d3] }
  | _ => none }
def fnExactStStepRow : OpenClaim := { program := "ytfahmmlkcmadeaa", sum := "b62f7f996b0e627e7ef4db9e6285eda391065b5cd0385f09041bee52f306e7b7", func := "loop.example/g00724/laws.FnExactStStep", spec := "fnExactStStep", apart := false }
def FnExactStStepSaid : Prop := fnExactStStepRow.holds Try.pinned (OpenSpec.ofChange fnExactStStepSpec)

/-- ITS FALSE NEIGHBOUR: 'it returns false'. Refute it at one input. -/
def fnExactStStepWrong : ChangeSpec := { name := "fnExactStStep", fn := fun _ => fun
  | [d1, d2, d3] => { results := [.lit (.bool false)], args := [d1, d2, d3] }
  | _ => none }
def FnExactStStepWrongFalsely : Prop := fnExactStStepRow.holds Try.pinned (OpenSpec.ofChange fnExactStStepWrong)

/-- 'laws.FnExactStItems': WHATEVER THE INPUT: true; the input reads as it did. -/
def fnExactStItemsSpec : ChangeSpec := { name := "fnExactStItems", fn := fun _ => fun
  | [d1, d2] => { results := [.lit (.bool true)], args := [d1, d2] }
  | _ => none }
def fnExactStItemsRow : OpenClaim := { program := "ytfahmmlkcmadeaa", sum := "b62f7f996b0e627e7ef4db9e6285eda391065b5cd0385f09041bee52f306e7b7", func := "loop.example/g00724/laws.FnExactStItems", spec := "fnExactStItems", apart := false }
def FnExactStItemsSaid : Prop := fnExactStItemsRow.holds Try.pinned (OpenSpec.ofChange fnExactStItemsSpec)

/-- ITS FALSE NEIGHBOUR: 'it returns false'. Refute it at one input. -/
def fnExactStItemsWrong : ChangeSpec := { name := "fnExactStItems", fn := fun _ => fun
  | [d1, d2] => { results := [.lit (.bool false)], args := [d1, d2] }
  | _ => none }
def FnExactStItemsWrongFalsely : Prop := fnExactStItemsRow.holds Try.pinned (OpenSpec.ofChange fnExactStItemsWrong)

/-- 'laws.FnExactRiCall': WHATEVER THE INPUT: true; the input reads as it did. -/
def fnExactRiCallSpec : ChangeSpec := { name := "fnExactRiCall", fn := fun _ => fun
  | [d1, d2] => { results := [.lit (.bool true)], args := [d1, d2] }
  | _ => none }
def fnExactRiCallRow : OpenClaim := { program := "ytfahmmlkcmadeaa", sum := "b62f7f996b0e627e7ef4db9e6285eda391065b5cd0385f09041bee52f306e7b7", func := "loop.example/g00724/laws.FnExactRiCall", spec := "fnExactRiCall", apart := false }
def FnExactRiCallSaid : Prop := fnExactRiCallRow.holds Try.pinned (OpenSpec.ofChange fnExactRiCallSpec)

/-- ITS FALSE NEIGHBOUR: 'it returns false'. Refute it at one input. -/
def fnExactRiCallWrong : ChangeSpec := { name := "fnExactRiCall", fn := fun _ => fun
  | [d1, d2] => { results := [.lit (.bool false)], args := [d1, d2] }
  | _ => none }
def FnExactRiCallWrongFalsely : Prop := fnExactRiCallRow.holds Try.pinned (OpenSpec.ofChange fnExactRiCallWrong)

/-- 'laws.FnExactRiNew': WHATEVER THE INPUT: true; the input reads as it did. -/
def fnExactRiNewSpec : ChangeSpec := { name := "fnExactRiNew", fn := fun _ => fun
  | [d] => { results := [.lit (.bool true)], args := [d] }
  | _ => none }
def fnExactRiNewRow : OpenClaim := { program := "ytfahmmlkcmadeaa", sum := "b62f7f996b0e627e7ef4db9e6285eda391065b5cd0385f09041bee52f306e7b7", func := "loop.example/g00724/laws.FnExactRiNew", spec := "fnExactRiNew", apart := false }
def FnExactRiNewSaid : Prop := fnExactRiNewRow.holds Try.pinned (OpenSpec.ofChange fnExactRiNewSpec)

/-- ITS FALSE NEIGHBOUR: 'it returns false'. Refute it at one input. -/
def fnExactRiNewWrong : ChangeSpec := { name := "fnExactRiNew", fn := fun _ => fun
  | [d] => { results := [.lit (.bool false)], args := [d] }
  | _ => none }
def FnExactRiNewWrongFalsely : Prop := fnExactRiNewRow.holds Try.pinned (OpenSpec.ofChange fnExactRiNewWrong)

/-- 'laws.FnExactRiAct': WHATEVER THE INPUT: true; the input reads as it did. -/
def fnExactRiActSpec : ChangeSpec := { name := "fnExactRiAct", fn := fun _ => fun
  | [d1, d2] => { results := [.lit (.bool true)], args := [d1, d2] }
  | _ => none }
def fnExactRiActRow : OpenClaim := { program := "ytfahmmlkcmadeaa", sum := "b62f7f996b0e627e7ef4db9e6285eda391065b5cd0385f09041bee52f306e7b7", func := "loop.example/g00724/laws.FnExactRiAct", spec := "fnExactRiAct", apart := false }
def FnExactRiActSaid : Prop := fnExactRiActRow.holds Try.pinned (OpenSpec.ofChange fnExactRiActSpec)

/-- ITS FALSE NEIGHBOUR: 'it returns false'. Refute it at one input. -/
def fnExactRiActWrong : ChangeSpec := { name := "fnExactRiAct", fn := fun _ => fun
  | [d1, d2] => { results := [.lit (.bool false)], args := [d1, d2] }
  | _ => none }
def FnExactRiActWrongFalsely : Prop := fnExactRiActRow.holds Try.pinned (OpenSpec.ofChange fnExactRiActWrong)

/-- 'laws.FnExactRiStep': WHATEVER THE INPUT: true; the input reads as it did. -/
def fnExactRiStepSpec : ChangeSpec := { name := "fnExactRiStep", fn := fun _ => fun
  | [d1, d2, d3] => { results := [.lit (.bool true)], args := [d1, d2, d3] }
  | _ => none }
def fnExactRiStepRow : OpenClaim := { program := "ytfahmmlkcmadeaa", sum := "b62f7f996b0e627e7ef4db9e6285eda391065b5cd0385f09041bee52f306e7b7", func := "loop.example/g00724/laws.FnExactRiStep", spec := "fnExactRiStep", apart := false }
def FnExactRiStepSaid : Prop := fnExactRiStepRow.holds Try.pinned (OpenSpec.ofChange fnExactRiStepSpec)

/-- ITS FALSE NEIGHBOUR: 'it returns false'. Refute it at one input. -/
def fnExactRiStepWrong : ChangeSpec := { name := "fnExactRiStep", fn := fun _ => fun
  | [d1, d2, d3] => { results := [.lit (.bool false)], args := [d1, d2, d3] }
  | _ => none }
def FnExactRiStepWrongFalsely : Prop := fnExactRiStepRow.holds Try.pinned (OpenSpec.ofChange fnExactRiStepWrong)

/-- 'laws.FnExactRiItems': WHATEVER THE INPUT: true; the input reads as it did. -/
def fnExactRiItemsSpec : ChangeSpec := { name := "fnExactRiItems", fn := fun _ => fun
  | [d1, d2] => { results := [.lit (.bool true)], args := [d1, d2] }
  | _ => none }
def fnExactRiItemsRow : OpenClaim := { program := "ytfahmmlkcmadeaa", sum := "b62f7f996b0e627e7ef4db9e6285eda391065b5cd0385f09041bee52f306e7b7", func := "loop.example/g00724/laws.FnExactRiItems", spec := "fnExactRiItems", apart := false }
def FnExactRiItemsSaid : Prop := fnExactRiItemsRow.holds Try.pinned (OpenSpec.ofChange fnExactRiItemsSpec)

/-- ITS FALSE NEIGHBOUR: 'it returns false'. Refute it at one input. -/
def fnExactRiItemsWrong : ChangeSpec := { name := "fnExactRiItems", fn := fun _ => fun
  | [d1, d2] => { results := [.lit (.bool false)], args := [d1, d2] }
  | _ => none }
def FnExactRiItemsWrongFalsely : Prop := fnExactRiItemsRow.holds Try.pinned (OpenSpec.ofChange fnExactRiItemsWrong)

/-- 'laws.FnStackOne': WHATEVER THE INPUT: true; the input reads as it did. -/
def fnStackOneSpec : ChangeSpec := { name := "fnStackOne", fn := fun _ => fun
  | [d] => { results := [.lit (.bool true)], args := [d] }
  | _ => none }
def fnStackOneRow : OpenClaim := { program := "ytfahmmlkcmadeaa", sum := "b62f7f996b0e627e7ef4db9e6285eda391065b5cd0385f09041bee52f306e7b7", func := "loop.example/g00724/laws.FnStackOne", spec := "fnStackOne", apart := false }
def FnStackOneSaid : Prop := fnStackOneRow.holds Try.pinned (OpenSpec.ofChange fnStackOneSpec)

/-- ITS FALSE NEIGHBOUR: 'it returns false'. Refute it at one input. -/
def fnStackOneWrong : ChangeSpec := { name := "fnStackOne", fn := fun _ => fun
  | [d] => { results := [.lit (.bool false)], args := [d] }
  | _ => none }
def FnStackOneWrongFalsely : Prop := fnStackOneRow.holds Try.pinned (OpenSpec.ofChange fnStackOneWrong)

/-- 'laws.FnRingOne': WHATEVER THE INPUT: true; the input reads as it did. -/
def fnRingOneSpec : ChangeSpec := { name := "fnRingOne", fn := fun _ => fun
  | [d] => { results := [.lit (.bool true)], args := [d] }
  | _ => none }
def fnRingOneRow : OpenClaim := { program := "ytfahmmlkcmadeaa", sum := "b62f7f996b0e627e7ef4db9e6285eda391065b5cd0385f09041bee52f306e7b7", func := "loop.example/g00724/laws.FnRingOne", spec := "fnRingOne", apart := false }
def FnRingOneSaid : Prop := fnRingOneRow.holds Try.pinned (OpenSpec.ofChange fnRingOneSpec)

/-- ITS FALSE NEIGHBOUR: 'it returns false'. Refute it at one input. -/
def fnRingOneWrong : ChangeSpec := { name := "fnRingOne", fn := fun _ => fun
  | [d] => { results := [.lit (.bool false)], args := [d] }
  | _ => none }
def FnRingOneWrongFalsely : Prop := fnRingOneRow.holds Try.pinned (OpenSpec.ofChange fnRingOneWrong)

/- THE SECOND FORM. 'bulk': how many values and letters a reading holds, each counted each time it is reached (what is shared counts as often as it is met; a slice's spare places count too). A statement '..UptoSaid' is the law's where the arguments, and the package variables that the reading takes, are together of bulk at most 1048576: NARROWER than '..Said'. Prove '..Said' where nothing that the law and all that it calls make is longer than what came in: it says more and counts as full. Else prove '..UptoSaid'. A law counts once. -/
mutual
def uptoBulk {H : Type} : DataW H → Nat
  | .lit (.string bytes) => bytes.length + 1
  | .lit _ => 1
  | .nil => 1
  | .ptr d => uptoBulk d + 1
  | .slice elems spare => uptoBulkAll elems + uptoBulkAll spare + 1
  | .agg parts => uptoBulkAll parts + 1
  | .iface _ d => uptoBulk d + 1
  | .map entries => uptoBulkEntries entries + 1
  | .held _ => 1
def uptoBulkAll {H : Type} : List (DataW H) → Nat
  | [] => 0
  | d :: r => uptoBulk d + uptoBulkAll r
def uptoBulkEntries {H : Type} : List (Lit × DataW H) → Nat
  | [] => 0
  | x :: r => uptoBulkEntry x + uptoBulkEntries r
def uptoBulkEntry {H : Type} : Lit × DataW H → Nat
  | (.string bytes, d) => bytes.length + uptoBulk d + 1
  | (_, d) => uptoBulk d + 1
 end
def uptoSmall : (H : Type) → List (DataW H) → Bool := fun _ ds => decide (uptoBulkAll ds ≤ 1048576)
def OpenSpec.upto (s : _root_.Go.ChangeSpec) : _root_.Go.OpenSpec := { _root_.Go.OpenSpec.ofChange s with cond := some uptoSmall }

/-- 'laws.FnExactStCall', WHERE WHAT IT READS IS OF BULK AT MOST 1048576: true; the input reads as it did. -/
def fnExactStCallUptoRow : OpenClaim := { program := "ytfahmmlkcmadeaa", sum := "b62f7f996b0e627e7ef4db9e6285eda391065b5cd0385f09041bee52f306e7b7", func := "loop.example/g00724/laws.FnExactStCall", spec := "fnExactStCall", apart := false, narrowed := true }
def FnExactStCallUptoSaid : Prop := fnExactStCallUptoRow.holds Try.pinned (OpenSpec.upto fnExactStCallSpec)

/-- 'laws.FnExactStNew', WHERE WHAT IT READS IS OF BULK AT MOST 1048576: true; the input reads as it did. -/
def fnExactStNewUptoRow : OpenClaim := { program := "ytfahmmlkcmadeaa", sum := "b62f7f996b0e627e7ef4db9e6285eda391065b5cd0385f09041bee52f306e7b7", func := "loop.example/g00724/laws.FnExactStNew", spec := "fnExactStNew", apart := false, narrowed := true }
def FnExactStNewUptoSaid : Prop := fnExactStNewUptoRow.holds Try.pinned (OpenSpec.upto fnExactStNewSpec)

/-- 'laws.FnExactStAct', WHERE WHAT IT READS IS OF BULK AT MOST 1048576: true; the input reads as it did. -/
def fnExactStActUptoRow : OpenClaim := { program := "ytfahmmlkcmadeaa", sum := "b62f7f996b0e627e7ef4db9e6285eda391065b5cd0385f09041bee52f306e7b7", func := "loop.example/g00724/laws.FnExactStAct", spec := "fnExactStAct", apart := false, narrowed := true }
def FnExactStActUptoSaid : Prop := fnExactStActUptoRow.holds Try.pinned (OpenSpec.upto fnExactStActSpec)

/-- 'laws.FnExactStStep', WHERE WHAT IT READS IS OF BULK AT MOST 1048576: true; the input reads as it did. -/
def fnExactStStepUptoRow : OpenClaim := { program := "ytfahmmlkcmadeaa", sum := "b62f7f996b0e627e7ef4db9e6285eda391065b5cd0385f09041bee52f306e7b7", func := "loop.example/g00724/laws.FnExactStStep", spec := "fnExactStStep", apart := false, narrowed := true }
def FnExactStStepUptoSaid : Prop := fnExactStStepUptoRow.holds Try.pinned (OpenSpec.upto fnExactStStepSpec)

/-- 'laws.FnExactStItems', WHERE WHAT IT READS IS OF BULK AT MOST 1048576: true; the input reads as it did. -/
def fnExactStItemsUptoRow : OpenClaim := { program := "ytfahmmlkcmadeaa", sum := "b62f7f996b0e627e7ef4db9e6285eda391065b5cd0385f09041bee52f306e7b7", func := "loop.example/g00724/laws.FnExactStItems", spec := "fnExactStItems", apart := false, narrowed := true }
def FnExactStItemsUptoSaid : Prop := fnExactStItemsUptoRow.holds Try.pinned (OpenSpec.upto fnExactStItemsSpec)

/-- 'laws.FnExactRiCall', WHERE WHAT IT READS IS OF BULK AT MOST 1048576: true; the input reads as it did. -/
def fnExactRiCallUptoRow : OpenClaim := { program := "ytfahmmlkcmadeaa", sum := "b62f7f996b0e627e7ef4db9e6285eda391065b5cd0385f09041bee52f306e7b7", func := "loop.example/g00724/laws.FnExactRiCall", spec := "fnExactRiCall", apart := false, narrowed := true }
def FnExactRiCallUptoSaid : Prop := fnExactRiCallUptoRow.holds Try.pinned (OpenSpec.upto fnExactRiCallSpec)

/-- 'laws.FnExactRiNew', WHERE WHAT IT READS IS OF BULK AT MOST 1048576: true; the input reads as it did. -/
def fnExactRiNewUptoRow : OpenClaim := { program := "ytfahmmlkcmadeaa", sum := "b62f7f996b0e627e7ef4db9e6285eda391065b5cd0385f09041bee52f306e7b7", func := "loop.example/g00724/laws.FnExactRiNew", spec := "fnExactRiNew", apart := false, narrowed := true }
def FnExactRiNewUptoSaid : Prop := fnExactRiNewUptoRow.holds Try.pinned (OpenSpec.upto fnExactRiNewSpec)

/-- 'laws.FnExactRiAct', WHERE WHAT IT READS IS OF BULK AT MOST 1048576: true; the input reads as it did. -/
def fnExactRiActUptoRow : OpenClaim := { program := "ytfahmmlkcmadeaa", sum := "b62f7f996b0e627e7ef4db9e6285eda391065b5cd0385f09041bee52f306e7b7", func := "loop.example/g00724/laws.FnExactRiAct", spec := "fnExactRiAct", apart := false, narrowed := true }
def FnExactRiActUptoSaid : Prop := fnExactRiActUptoRow.holds Try.pinned (OpenSpec.upto fnExactRiActSpec)

/-- 'laws.FnExactRiStep', WHERE WHAT IT READS IS OF BULK AT MOST 1048576: true; the input reads as it did. -/
def fnExactRiStepUptoRow : OpenClaim := { program := "ytfahmmlkcmadeaa", sum := "b62f7f996b0e627e7ef4db9e6285eda391065b5cd0385f09041bee52f306e7b7", func := "loop.example/g00724/laws.FnExactRiStep", spec := "fnExactRiStep", apart := false, narrowed := true }
def FnExactRiStepUptoSaid : Prop := fnExactRiStepUptoRow.holds Try.pinned (OpenSpec.upto fnExactRiStepSpec)

/-- 'laws.FnExactRiItems', WHERE WHAT IT READS IS OF BULK AT MOST 1048576: true; the input reads as it did. -/
def fnExactRiItemsUptoRow : OpenClaim := { program := "ytfahmmlkcmadeaa", sum := "b62f7f996b0e627e7ef4db9e6285eda391065b5cd0385f09041bee52f306e7b7", func := "loop.example/g00724/laws.FnExactRiItems", spec := "fnExactRiItems", apart := false, narrowed := true }
def FnExactRiItemsUptoSaid : Prop := fnExactRiItemsUptoRow.holds Try.pinned (OpenSpec.upto fnExactRiItemsSpec)

/-- 'laws.FnStackOne', WHERE WHAT IT READS IS OF BULK AT MOST 1048576: true; the input reads as it did. -/
def fnStackOneUptoRow : OpenClaim := { program := "ytfahmmlkcmadeaa", sum := "b62f7f996b0e627e7ef4db9e6285eda391065b5cd0385f09041bee52f306e7b7", func := "loop.example/g00724/laws.FnStackOne", spec := "fnStackOne", apart := false, narrowed := true }
def FnStackOneUptoSaid : Prop := fnStackOneUptoRow.holds Try.pinned (OpenSpec.upto fnStackOneSpec)

/-- 'laws.FnRingOne', WHERE WHAT IT READS IS OF BULK AT MOST 1048576: true; the input reads as it did. -/
def fnRingOneUptoRow : OpenClaim := { program := "ytfahmmlkcmadeaa", sum := "b62f7f996b0e627e7ef4db9e6285eda391065b5cd0385f09041bee52f306e7b7", func := "loop.example/g00724/laws.FnRingOne", spec := "fnRingOne", apart := false, narrowed := true }
def FnRingOneUptoSaid : Prop := fnRingOneUptoRow.holds Try.pinned (OpenSpec.upto fnRingOneSpec)

end Rows
end Go.Proofs.Ytfahmmlkcmadeaa
