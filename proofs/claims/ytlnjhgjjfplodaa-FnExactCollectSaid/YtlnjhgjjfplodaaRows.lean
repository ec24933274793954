/-
  No cell of these rows narrows 'for every input' (looked for: loops, veiled, ifaces, maps, wideKeys, modest, calm, conditions, laid).
  DERIVED. THE GIVEN ROWS OF THIS SEAT. 8 by the template 'for every input the law returns true; each argument reads behind the call as it read before'; 0 by the template 'total and deterministic' (their statements: YtlnjhgjjfplodaaTotals.lean).
  GIVEN WITH THE SEED: the statements are not yours to turn. If you find one false, say at which input.
  Laid BY PROGRAM, IN A SANDBOX (cutbox-rows.mjs): the forced cells as the released guide's own fill.sh prints them over the translation 295cc507bc749f16… (all of the seat's roots in one cut). By AI agents, Wed Nov 11 2026. No macro, syntax, notation, axiom, sorry.
-/
import Derived.Test.YtlnjhgjjfplodaaChecked
import GoSem.Claim
import GoSem.ClaimJoined
import GoSem.ClaimMapViews
import Derived.JoinedTies
import Derived.KernelRfl
namespace Go.Proofs.Ytlnjhgjjfplodaa
/- THE CELL 'sum', in the pinned program and in every row, IS THE sha256 OF THE DUMP (.gsa) THAT YtlnjhgjjfplodaaProg.lean LOADS. Nothing in Lean hashes anything: it is a label: what it is worth is what the hold of that sum in a sandbox is worth. -/
noncomputable def Try.pinned : Pinned := { name := "ytlnjhgjjfplodaa", sum := "295cc507bc749f16a7598d17cfb0ef53c75c2ba2a021de4895dd1a055e600211", checked := Try.checked }
namespace Rows
def none {H : Type} : Left H := { results := [], args := [] }

/-- 'laws.FnExactAgesOk': WHATEVER THE INPUT: true; the input reads as it did. -/
def fnExactAgesOkSpec : ChangeSpec := { name := "fnExactAgesOk", fn := fun _ => fun
  | [d] => { results := [.lit (.bool true)], args := [d] }
  | _ => none }
def fnExactAgesOkRow : OpenClaim := { program := "ytlnjhgjjfplodaa", sum := "295cc507bc749f16a7598d17cfb0ef53c75c2ba2a021de4895dd1a055e600211", func := "loop.example/g00724/laws.FnExactAgesOk", spec := "fnExactAgesOk", apart := false }
def FnExactAgesOkSaid : Prop := fnExactAgesOkRow.holds Try.pinned (OpenSpec.ofChange fnExactAgesOkSpec)

/-- ITS FALSE NEIGHBOUR: 'it returns false'. Refute it at one input. -/
def fnExactAgesOkWrong : ChangeSpec := { name := "fnExactAgesOk", fn := fun _ => fun
  | [d] => { results := [.lit (.bool false)], args := [d] }
  | _ => none }
def FnExactAgesOkWrongFalsely : Prop := fnExactAgesOkRow.holds Try.pinned (OpenSpec.ofChange fnExactAgesOkWrong)

/-- 'laws.FnExactAgesNew': WHATEVER THE INPUT: true; the input reads as it did. -/
def fnExactAgesNewSpec : ChangeSpec := { name := "fnExactAgesNew", fn := fun _ => fun
  | [d] => { results := [.lit (.bool true)], args := [d] }
  | _ => none }
def fnExactAgesNewRow : OpenClaim := { program := "ytlnjhgjjfplodaa", sum := "295cc507bc749f16a7598d17cfb0ef53c75c2ba2a021de4895dd1a055e600211", func := "loop.example/g00724/laws.FnExactAgesNew", spec := "fnExactAgesNew", apart := false }
def FnExactAgesNewSaid : Prop := fnExactAgesNewRow.holds Try.pinned (OpenSpec.ofChange fnExactAgesNewSpec)

/-- ITS FALSE NEIGHBOUR: 'it returns false'. Refute it at one input. -/
def fnExactAgesNewWrong : ChangeSpec := { name := "fnExactAgesNew", fn := fun _ => fun
  | [d] => { results := [.lit (.bool false)], args := [d] }
  | _ => none }
def FnExactAgesNewWrongFalsely : Prop := fnExactAgesNewRow.holds Try.pinned (OpenSpec.ofChange fnExactAgesNewWrong)

/-- 'laws.FnExactPin': WHATEVER THE INPUT: true; the input reads as it did. -/
def fnExactPinSpec : ChangeSpec := { name := "fnExactPin", fn := fun _ => fun
  | [d1, d2] => { results := [.lit (.bool true)], args := [d1, d2] }
  | _ => none }
def fnExactPinRow : OpenClaim := { program := "ytlnjhgjjfplodaa", sum := "295cc507bc749f16a7598d17cfb0ef53c75c2ba2a021de4895dd1a055e600211", func := "loop.example/g00724/laws.FnExactPin", spec := "fnExactPin", apart := false }
def FnExactPinSaid : Prop := fnExactPinRow.holds Try.pinned (OpenSpec.ofChange fnExactPinSpec)

/-- ITS FALSE NEIGHBOUR: 'it returns false'. Refute it at one input. -/
def fnExactPinWrong : ChangeSpec := { name := "fnExactPin", fn := fun _ => fun
  | [d1, d2] => { results := [.lit (.bool false)], args := [d1, d2] }
  | _ => none }
def FnExactPinWrongFalsely : Prop := fnExactPinRow.holds Try.pinned (OpenSpec.ofChange fnExactPinWrong)

/-- 'laws.FnExactUnpin': WHATEVER THE INPUT: true; the input reads as it did. -/
def fnExactUnpinSpec : ChangeSpec := { name := "fnExactUnpin", fn := fun _ => fun
  | [d1, d2] => { results := [.lit (.bool true)], args := [d1, d2] }
  | _ => none }
def fnExactUnpinRow : OpenClaim := { program := "ytlnjhgjjfplodaa", sum := "295cc507bc749f16a7598d17cfb0ef53c75c2ba2a021de4895dd1a055e600211", func := "loop.example/g00724/laws.FnExactUnpin", spec := "fnExactUnpin", apart := false }
def FnExactUnpinSaid : Prop := fnExactUnpinRow.holds Try.pinned (OpenSpec.ofChange fnExactUnpinSpec)

/-- ITS FALSE NEIGHBOUR: 'it returns false'. Refute it at one input. -/
def fnExactUnpinWrong : ChangeSpec := { name := "fnExactUnpin", fn := fun _ => fun
  | [d1, d2] => { results := [.lit (.bool false)], args := [d1, d2] }
  | _ => none }
def FnExactUnpinWrongFalsely : Prop := fnExactUnpinRow.holds Try.pinned (OpenSpec.ofChange fnExactUnpinWrong)

/-- 'laws.FnExactRetire': WHATEVER THE INPUT: true; the input reads as it did. -/
def fnExactRetireSpec : ChangeSpec := { name := "fnExactRetire", fn := fun _ => fun
  | [d1, d2] => { results := [.lit (.bool true)], args := [d1, d2] }
  | _ => none }
def fnExactRetireRow : OpenClaim := { program := "ytlnjhgjjfplodaa", sum := "295cc507bc749f16a7598d17cfb0ef53c75c2ba2a021de4895dd1a055e600211", func := "loop.example/g00724/laws.FnExactRetire", spec := "fnExactRetire", apart := false }
def FnExactRetireSaid : Prop := fnExactRetireRow.holds Try.pinned (OpenSpec.ofChange fnExactRetireSpec)

/-- ITS FALSE NEIGHBOUR: 'it returns false'. Refute it at one input. -/
def fnExactRetireWrong : ChangeSpec := { name := "fnExactRetire", fn := fun _ => fun
  | [d1, d2] => { results := [.lit (.bool false)], args := [d1, d2] }
  | _ => none }
def FnExactRetireWrongFalsely : Prop := fnExactRetireRow.holds Try.pinned (OpenSpec.ofChange fnExactRetireWrong)

/-- 'laws.FnExactAdvance': WHATEVER THE INPUT: true; the input reads as it did. -/
def fnExactAdvanceSpec : ChangeSpec := { name := "fnExactAdvance", fn := fun _ => fun
  | [d] => { results := [.lit (.bool true)], args := [d] }
  | _ => none }
def fnExactAdvanceRow : OpenClaim := { program := "ytlnjhgjjfplodaa", sum := "295cc507bc749f16a7598d17cfb0ef53c75c2ba2a021de4895dd1a055e600211", func := "loop.example/g00724/laws.FnExactAdvance", spec := "fnExactAdvance", apart := false }
def FnExactAdvanceSaid : Prop := fnExactAdvanceRow.holds Try.pinned (OpenSpec.ofChange fnExactAdvanceSpec)

/-- ITS FALSE NEIGHBOUR: 'it returns false'. Refute it at one input. -/
def fnExactAdvanceWrong : ChangeSpec := { name := "fnExactAdvance", fn := fun _ => fun
  | [d] => { results := [.lit (.bool false)], args := [d] }
  | _ => none }
def FnExactAdvanceWrongFalsely : Prop := fnExactAdvanceRow.holds Try.pinned (OpenSpec.ofChange fnExactAdvanceWrong)

/-- 'laws.FnExactCollect': WHATEVER THE INPUT: true; the input reads as it did. -/
def fnExactCollectSpec : ChangeSpec := { name := "fnExactCollect", fn := fun _ => fun
  | [d] => { results := [.lit (.bool true)], args := [d] }
  | _ => none }
def fnExactCollectRow : OpenClaim := { program := "ytlnjhgjjfplodaa", sum := "295cc507bc749f16a7598d17cfb0ef53c75c2ba2a021de4895dd1a055e600211", func := "loop.example/g00724/laws.FnExactCollect", spec := "fnExactCollect", apart := false }
def FnExactCollectSaid : Prop := fnExactCollectRow.holds Try.pinned (OpenSpec.ofChange fnExactCollectSpec)

/-- ITS FALSE NEIGHBOUR: 'it returns false'. Refute it at one input. -/
def fnExactCollectWrong : ChangeSpec := { name := "fnExactCollect", fn := fun _ => fun
  | [d] => { results := [.lit (.bool false)], args := [d] }
  | _ => none }
def FnExactCollectWrongFalsely : Prop := fnExactCollectRow.holds Try.pinned (OpenSpec.ofChange fnExactCollectWrong)

/-- 'laws.FnExactSafe': WHATEVER THE INPUT: true; the input reads as it did. -/
def fnExactSafeSpec : ChangeSpec := { name := "fnExactSafe", fn := fun _ => fun
  | [d1, d2] => { results := [.lit (.bool true)], args := [d1, d2] }
  | _ => none }
def fnExactSafeRow : OpenClaim := { program := "ytlnjhgjjfplodaa", sum := "295cc507bc749f16a7598d17cfb0ef53c75c2ba2a021de4895dd1a055e600211", func := "loop.example/g00724/laws.FnExactSafe", spec := "fnExactSafe", apart := false }
def FnExactSafeSaid : Prop := fnExactSafeRow.holds Try.pinned (OpenSpec.ofChange fnExactSafeSpec)

/-- ITS FALSE NEIGHBOUR: 'it returns false'. Refute it at one input. -/
def fnExactSafeWrong : ChangeSpec := { name := "fnExactSafe", fn := fun _ => fun
  | [d1, d2] => { results := [.lit (.bool false)], args := [d1, d2] }
  | _ => none }
def FnExactSafeWrongFalsely : Prop := fnExactSafeRow.holds Try.pinned (OpenSpec.ofChange fnExactSafeWrong)

/- THE SECOND FORM. 'bulk': how many values and letters a reading holds, each counted each time it is reached (what is shared counts as often as it is met; a slice's spare places count too). A statement '..UptoSaid' is the law's where the arguments, and the package variables that the reading takes, are together of bulk at most 1048576: NARROWER than '..Said'. Prove '..Said' where nothing that the law and all that it calls make is longer than what came in: it says more and counts as full. Else prove '..UptoSaid'. A law counts once. -/
mutual
def uptoBulk {H : Type} : DataW H → Nat
  | .lit (.string bytes) => bytes.length + 1
  | .lit _ => 1
  | .nil => 1
  | .ptr d => uptoBulk d + 1
  | .slice elems spare => uptoBulkAll elems + uptoBulkAll spare + 1
  | .agg parts => uptoBulkAll parts + 1
  | .iface _ d => uptoBulk d + 1
  | .map entries => uptoBulkEntries entries + 1
  | .held _ => 1
def uptoBulkAll {H : Type} : List (DataW H) → Nat
  | [] => 0
  | d :: r => uptoBulk d + uptoBulkAll r
def uptoBulkEntries {H : Type} : List (Lit × DataW H) → Nat
  | [] => 0
  | x :: r => uptoBulkEntry x + uptoBulkEntries r
def uptoBulkEntry {H : Type} : Lit × DataW H → Nat
  | (.string bytes, d) => bytes.length + uptoBulk d + 1
  | (_, d) => uptoBulk d + 1
 end
def uptoSmall : (H : Type) → List (DataW H) → Bool := fun _ ds => decide (uptoBulkAll ds ≤ 1048576)
def OpenSpec.upto (s : _root_.Go.ChangeSpec) : _root_.Go.OpenSpec := { _root_.Go.OpenSpec.ofChange s with cond := some uptoSmall }

/-- 'laws.FnExactAgesOk', WHERE WHAT IT READS IS OF BULK AT MOST 1048576: true; the input reads as it did. -/
def fnExactAgesOkUptoRow : OpenClaim := { program := "ytlnjhgjjfplodaa", sum := "295cc507bc749f16a7598d17cfb0ef53c75c2ba2a021de4895dd1a055e600211", func := "loop.example/g00724/laws.FnExactAgesOk", spec := "fnExactAgesOk", apart := false, narrowed := true }
def FnExactAgesOkUptoSaid : Prop := fnExactAgesOkUptoRow.holds Try.pinned (OpenSpec.upto fnExactAgesOkSpec)

/-- 'laws.FnExactAgesNew', WHERE WHAT IT READS IS OF BULK AT MOST 1048576: true; the input reads as it did. -/
def fnExactAgesNewUptoRow : OpenClaim := { program := "ytlnjhgjjfplodaa", sum := "295cc507bc749f16a7598d17cfb0ef53c75c2ba2a021de4895dd1a055e600211", func := "loop.example/g00724/laws.FnExactAgesNew", spec := "fnExactAgesNew", apart := false, narrowed := true }
def FnExactAgesNewUptoSaid : Prop := fnExactAgesNewUptoRow.holds Try.pinned (OpenSpec.upto fnExactAgesNewSpec)

/-- 'laws.FnExactPin', WHERE WHAT IT READS IS OF BULK AT MOST 1048576: true; the input reads as it did. -/
def fnExactPinUptoRow : OpenClaim := { program := "ytlnjhgjjfplodaa", sum := "295cc507bc749f16a7598d17cfb0ef53c75c2ba2a021de4895dd1a055e600211", func := "loop.example/g00724/laws.FnExactPin", spec := "fnExactPin", apart := false, narrowed := true }
def FnExactPinUptoSaid : Prop := fnExactPinUptoRow.holds Try.pinned (OpenSpec.upto fnExactPinSpec)

/-- 'laws.FnExactUnpin', WHERE WHAT IT READS IS OF BULK AT MOST 1048576: true; the input reads as it did. -/
def fnExactUnpinUptoRow : OpenClaim := { program := "ytlnjhgjjfplodaa", sum := "295cc507bc749f16a7598d17cfb0ef53c75c2ba2a021de4895dd1a055e600211", func := "loop.example/g00724/laws.FnExactUnpin", spec := "fnExactUnpin", apart := false, narrowed := true }
def FnExactUnpinUptoSaid : Prop := fnExactUnpinUptoRow.holds Try.pinned (OpenSpec.upto fnExactUnpinSpec)

/-- 'laws.FnExactRetire', WHERE WHAT IT READS IS OF BULK AT MOST 1048576: true; the input reads as it did. -/
def fnExactRetireUptoRow : OpenClaim := { program := "ytlnjhgjjfplodaa", sum := "295cc507bc749f16a7598d17cfb0ef53c75c2ba2a021de4895dd1a055e600211", func := "loop.example/g00724/laws.FnExactRetire", spec := "fnExactRetire", apart := false, narrowed := true }
def FnExactRetireUptoSaid : Prop := fnExactRetireUptoRow.holds Try.pinned (OpenSpec.upto fnExactRetireSpec)

/-- 'laws.FnExactAdvance', WHERE WHAT IT READS IS OF BULK AT MOST 1048576: true; the input reads as it did. -/
def fnExactAdvanceUptoRow : OpenClaim := { program := "ytlnjhgjjfplodaa", sum := "295cc507bc749f16a7598d17cfb0ef53c75c2ba2a021de4895dd1a055e600211", func := "loop.example/g00724/laws.FnExactAdvance", spec := "fnExactAdvance", apart := false, narrowed := true }
def FnExactAdvanceUptoSaid : Prop := fnExactAdvanceUptoRow.holds Try.pinned (OpenSpec.upto fnExactAdvanceSpec)

/-- 'laws.FnExactCollect', WHERE WHAT IT READS IS OF BULK AT MOST 1048576: true; the input reads as it did. -/
def fnExactCollectUptoRow : OpenClaim := { program := "ytlnjhgjjfplodaa", sum := "295cc507bc749f16a7598d17cfb0ef53c75c2ba2a021de4895dd1a055e600211", func := "loop.example/g00724/laws.FnExactCollect", spec := "fnExactCollect", apart := false, narrowed := true }
def FnExactCollectUptoSaid : Prop := fnExactCollectUptoRow.holds Try.pinned (OpenSpec.upto fnExactCollectSpec)

/-- 'laws.FnExactSafe', WHERE WHAT IT READS IS OF BULK AT MOST 1048576: true; the input reads as it did. -/
def fnExactSafeUptoRow : OpenClaim := { program := "ytlnjhgjjfplodaa", sum := "295cc507bc749f16a7598d17cfb0ef53c75c2ba2a021de4895dd1a055e600211", func := "loop.example/g00724/laws.FnExactSafe", spec := "fnExactSafe", apart := false, narrowed := true }
def FnExactSafeUptoSaid : Prop := fnExactSafeUptoRow.holds Try.pinned (OpenSpec.upto fnExactSafeSpec)

end Rows
end Go.Proofs.Ytlnjhgjjfplodaa
