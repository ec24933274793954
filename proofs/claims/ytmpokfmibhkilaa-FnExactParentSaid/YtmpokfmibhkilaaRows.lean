/-
  No cell of these rows narrows 'for every input' (looked for: loops, veiled, ifaces, maps, wideKeys, modest, calm, conditions, laid).
  DERIVED. THE GIVEN ROWS OF THIS SEAT. 12 by the template 'for every input the law returns true; each argument reads behind the call as it read before'; 0 by the template 'total and deterministic' (their statements: YtmpokfmibhkilaaTotals.lean).
  GIVEN WITH THE SEED: the statements are not yours to turn. If you find one false, say at which input.
  Laid BY PROGRAM, IN A SANDBOX (cutbox-rows.mjs): the forced cells as the released guide's own fill.sh prints them over the translation 5dfe93ab6cb7d524… (all of the seat's roots in one cut). By AI agents, Wed Nov 11 2026. No macro, syntax, notation, axiom, sorry.
-/
import Derived.Test.YtmpokfmibhkilaaChecked
import GoSem.Claim
import GoSem.ClaimJoined
import GoSem.ClaimMapViews
import Derived.JoinedTies
import Derived.KernelRfl
namespace Go.Proofs.Ytmpokfmibhkilaa
/- THE CELL 'sum', in the pinned program and in every row, IS THE sha256 OF THE DUMP (.gsa) THAT YtmpokfmibhkilaaProg.lean LOADS. Nothing in Lean hashes anything: it is a label: what it is worth is what the hold of that sum in a sandbox is worth. -/
noncomputable def Try.pinned : Pinned := { name := "ytmpokfmibhkilaa", sum := "5dfe93ab6cb7d5242e684d44c044bcdcfe0e702d6630bd6c7586788bd14af04e", checked := Try.checked }
namespace Rows
def none {H : Type} : Left H := { results := [], args := [] }

/-- 'laws.FnExactConstants': WHATEVER THE INPUT: true; the input reads as it did. -/
def fnExactConstantsSpec : ChangeSpec := { name := "fnExactConstants", fn := fun _ => fun
  | [] => { results := [.lit (.bool true)], args := [] }
  | _ => none }
def fnExactConstantsRow : OpenClaim := { program := "ytmpokfmibhkilaa", sum := "5dfe93ab6cb7d5242e684d44c044bcdcfe0e702d6630bd6c7586788bd14af04e", func := "loop.example/g00724/laws.FnExactConstants", spec := "fnExactConstants", apart := false }
def FnExactConstantsSaid : Prop := fnExactConstantsRow.holds Try.pinned (OpenSpec.ofChange fnExactConstantsSpec)

/-- ITS FALSE NEIGHBOUR: 'it returns false'. Refute it at one input. -/
def fnExactConstantsWrong : ChangeSpec := { name := "fnExactConstants", fn := fun _ => fun
  | [] => { results := [.lit (.bool false)], args := [] }
  | _ => none }
def FnExactConstantsWrongFalsely : Prop := fnExactConstantsRow.holds Try.pinned (OpenSpec.ofChange fnExactConstantsWrong)

/-- 'laws.FnExactUnpack': WHATEVER THE INPUT: true; the input reads as it did. -/
def fnExactUnpackSpec : ChangeSpec := { name := "fnExactUnpack", fn := fun _ => fun
  | [d] => { results := [.lit (.bool true)], args := [d] }
  | _ => none }
def fnExactUnpackRow : OpenClaim := { program := "ytmpokfmibhkilaa", sum := "5dfe93ab6cb7d5242e684d44c044bcdcfe0e702d6630bd6c7586788bd14af04e", func := "loop.example/g00724/laws.FnExactUnpack", spec := "fnExactUnpack", apart := false }
def FnExactUnpackSaid : Prop := fnExactUnpackRow.holds Try.pinned (OpenSpec.ofChange fnExactUnpackSpec)

/-- ITS FALSE NEIGHBOUR: 'it returns false'. Refute it at one input. -/
def fnExactUnpackWrong : ChangeSpec := { name := "fnExactUnpack", fn := fun _ => fun
  | [d] => { results := [.lit (.bool false)], args := [d] }
  | _ => none }
def FnExactUnpackWrongFalsely : Prop := fnExactUnpackRow.holds Try.pinned (OpenSpec.ofChange fnExactUnpackWrong)

/-- 'laws.FnExactHash': WHATEVER THE INPUT: true; the input reads as it did. -/
def fnExactHashSpec : ChangeSpec := { name := "fnExactHash", fn := fun _ => fun
  | [d] => { results := [.lit (.bool true)], args := [d] }
  | _ => none }
def fnExactHashRow : OpenClaim := { program := "ytmpokfmibhkilaa", sum := "5dfe93ab6cb7d5242e684d44c044bcdcfe0e702d6630bd6c7586788bd14af04e", func := "loop.example/g00724/laws.FnExactHash", spec := "fnExactHash", apart := false }
def FnExactHashSaid : Prop := fnExactHashRow.holds Try.pinned (OpenSpec.ofChange fnExactHashSpec)

/-- ITS FALSE NEIGHBOUR: 'it returns false'. Refute it at one input. -/
def fnExactHashWrong : ChangeSpec := { name := "fnExactHash", fn := fun _ => fun
  | [d] => { results := [.lit (.bool false)], args := [d] }
  | _ => none }
def FnExactHashWrongFalsely : Prop := fnExactHashRow.holds Try.pinned (OpenSpec.ofChange fnExactHashWrong)

/-- 'laws.FnExactNextTag': WHATEVER THE INPUT: true; the input reads as it did. -/
def fnExactNextTagSpec : ChangeSpec := { name := "fnExactNextTag", fn := fun _ => fun
  | [d] => { results := [.lit (.bool true)], args := [d] }
  | _ => none }
def fnExactNextTagRow : OpenClaim := { program := "ytmpokfmibhkilaa", sum := "5dfe93ab6cb7d5242e684d44c044bcdcfe0e702d6630bd6c7586788bd14af04e", func := "loop.example/g00724/laws.FnExactNextTag", spec := "fnExactNextTag", apart := false }
def FnExactNextTagSaid : Prop := fnExactNextTagRow.holds Try.pinned (OpenSpec.ofChange fnExactNextTagSpec)

/-- ITS FALSE NEIGHBOUR: 'it returns false'. Refute it at one input. -/
def fnExactNextTagWrong : ChangeSpec := { name := "fnExactNextTag", fn := fun _ => fun
  | [d] => { results := [.lit (.bool false)], args := [d] }
  | _ => none }
def FnExactNextTagWrongFalsely : Prop := fnExactNextTagRow.holds Try.pinned (OpenSpec.ofChange fnExactNextTagWrong)

/-- 'laws.FnExactPack': WHATEVER THE INPUT: true; the input reads as it did. -/
def fnExactPackSpec : ChangeSpec := { name := "fnExactPack", fn := fun _ => fun
  | [d1, d2] => { results := [.lit (.bool true)], args := [d1, d2] }
  | _ => none }
def fnExactPackRow : OpenClaim := { program := "ytmpokfmibhkilaa", sum := "5dfe93ab6cb7d5242e684d44c044bcdcfe0e702d6630bd6c7586788bd14af04e", func := "loop.example/g00724/laws.FnExactPack", spec := "fnExactPack", apart := false }
def FnExactPackSaid : Prop := fnExactPackRow.holds Try.pinned (OpenSpec.ofChange fnExactPackSpec)

/-- ITS FALSE NEIGHBOUR: 'it returns false'. Refute it at one input. -/
def fnExactPackWrong : ChangeSpec := { name := "fnExactPack", fn := fun _ => fun
  | [d1, d2] => { results := [.lit (.bool false)], args := [d1, d2] }
  | _ => none }
def FnExactPackWrongFalsely : Prop := fnExactPackRow.holds Try.pinned (OpenSpec.ofChange fnExactPackWrong)

/-- 'laws.FnExactBucket': WHATEVER THE INPUT: true; the input reads as it did. -/
def fnExactBucketSpec : ChangeSpec := { name := "fnExactBucket", fn := fun _ => fun
  | [d1, d2] => { results := [.lit (.bool true)], args := [d1, d2] }
  | _ => none }
def fnExactBucketRow : OpenClaim := { program := "ytmpokfmibhkilaa", sum := "5dfe93ab6cb7d5242e684d44c044bcdcfe0e702d6630bd6c7586788bd14af04e", func := "loop.example/g00724/laws.FnExactBucket", spec := "fnExactBucket", apart := false }
def FnExactBucketSaid : Prop := fnExactBucketRow.holds Try.pinned (OpenSpec.ofChange fnExactBucketSpec)

/-- ITS FALSE NEIGHBOUR: 'it returns false'. Refute it at one input. -/
def fnExactBucketWrong : ChangeSpec := { name := "fnExactBucket", fn := fun _ => fun
  | [d1, d2] => { results := [.lit (.bool false)], args := [d1, d2] }
  | _ => none }
def FnExactBucketWrongFalsely : Prop := fnExactBucketRow.holds Try.pinned (OpenSpec.ofChange fnExactBucketWrong)

/-- 'laws.FnExactMod': WHATEVER THE INPUT: true; the input reads as it did. -/
def fnExactModSpec : ChangeSpec := { name := "fnExactMod", fn := fun _ => fun
  | [d1, d2] => { results := [.lit (.bool true)], args := [d1, d2] }
  | _ => none }
def fnExactModRow : OpenClaim := { program := "ytmpokfmibhkilaa", sum := "5dfe93ab6cb7d5242e684d44c044bcdcfe0e702d6630bd6c7586788bd14af04e", func := "loop.example/g00724/laws.FnExactMod", spec := "fnExactMod", apart := false }
def FnExactModSaid : Prop := fnExactModRow.holds Try.pinned (OpenSpec.ofChange fnExactModSpec)

/-- ITS FALSE NEIGHBOUR: 'it returns false'. Refute it at one input. -/
def fnExactModWrong : ChangeSpec := { name := "fnExactMod", fn := fun _ => fun
  | [d1, d2] => { results := [.lit (.bool false)], args := [d1, d2] }
  | _ => none }
def FnExactModWrongFalsely : Prop := fnExactModRow.holds Try.pinned (OpenSpec.ofChange fnExactModWrong)

/-- 'laws.FnExactNumText': WHATEVER THE INPUT: true; the input reads as it did. -/
def fnExactNumTextSpec : ChangeSpec := { name := "fnExactNumText", fn := fun _ => fun
  | [d] => { results := [.lit (.bool true)], args := [d] }
  | _ => none }
def fnExactNumTextRow : OpenClaim := { program := "ytmpokfmibhkilaa", sum := "5dfe93ab6cb7d5242e684d44c044bcdcfe0e702d6630bd6c7586788bd14af04e", func := "loop.example/g00724/laws.FnExactNumText", spec := "fnExactNumText", recurses := true, apart := false }
def FnExactNumTextSaid : Prop := fnExactNumTextRow.holds Try.pinned (OpenSpec.ofChange fnExactNumTextSpec)

/-- ITS FALSE NEIGHBOUR: 'it returns false'. Refute it at one input. -/
def fnExactNumTextWrong : ChangeSpec := { name := "fnExactNumText", fn := fun _ => fun
  | [d] => { results := [.lit (.bool false)], args := [d] }
  | _ => none }
def FnExactNumTextWrongFalsely : Prop := fnExactNumTextRow.holds Try.pinned (OpenSpec.ofChange fnExactNumTextWrong)

/-- 'laws.FnExactFlip': WHATEVER THE INPUT: true; the input reads as it did. -/
def fnExactFlipSpec : ChangeSpec := { name := "fnExactFlip", fn := fun _ => fun
  | [d] => { results := [.lit (.bool true)], args := [d] }
  | _ => none }
def fnExactFlipRow : OpenClaim := { program := "ytmpokfmibhkilaa", sum := "5dfe93ab6cb7d5242e684d44c044bcdcfe0e702d6630bd6c7586788bd14af04e", func := "loop.example/g00724/laws.FnExactFlip", spec := "fnExactFlip", apart := false }
def FnExactFlipSaid : Prop := fnExactFlipRow.holds Try.pinned (OpenSpec.ofChange fnExactFlipSpec)

/-- ITS FALSE NEIGHBOUR: 'it returns false'. Refute it at one input. -/
def fnExactFlipWrong : ChangeSpec := { name := "fnExactFlip", fn := fun _ => fun
  | [d] => { results := [.lit (.bool false)], args := [d] }
  | _ => none }
def FnExactFlipWrongFalsely : Prop := fnExactFlipRow.holds Try.pinned (OpenSpec.ofChange fnExactFlipWrong)

/-- 'laws.FnExactDummyKey': WHATEVER THE INPUT: true; the input reads as it did. -/
def fnExactDummyKeySpec : ChangeSpec := { name := "fnExactDummyKey", fn := fun _ => fun
  | [d] => { results := [.lit (.bool true)], args := [d] }
  | _ => none }
def fnExactDummyKeyRow : OpenClaim := { program := "ytmpokfmibhkilaa", sum := "5dfe93ab6cb7d5242e684d44c044bcdcfe0e702d6630bd6c7586788bd14af04e", func := "loop.example/g00724/laws.FnExactDummyKey", spec := "fnExactDummyKey", apart := false }
def FnExactDummyKeySaid : Prop := fnExactDummyKeyRow.holds Try.pinned (OpenSpec.ofChange fnExactDummyKeySpec)

/-- ITS FALSE NEIGHBOUR: 'it returns false'. Refute it at one input. -/
def fnExactDummyKeyWrong : ChangeSpec := { name := "fnExactDummyKey", fn := fun _ => fun
  | [d] => { results := [.lit (.bool false)], args := [d] }
  | _ => none }
def FnExactDummyKeyWrongFalsely : Prop := fnExactDummyKeyRow.holds Try.pinned (OpenSpec.ofChange fnExactDummyKeyWrong)

/-- 'laws.FnExactOrderKey': WHATEVER THE INPUT: true; the input reads as it did. -/
def fnExactOrderKeySpec : ChangeSpec := { name := "fnExactOrderKey", fn := fun _ => fun
  | [d] => { results := [.lit (.bool true)], args := [d] }
  | _ => none }
def fnExactOrderKeyRow : OpenClaim := { program := "ytmpokfmibhkilaa", sum := "5dfe93ab6cb7d5242e684d44c044bcdcfe0e702d6630bd6c7586788bd14af04e", func := "loop.example/g00724/laws.FnExactOrderKey", spec := "fnExactOrderKey", apart := false }
def FnExactOrderKeySaid : Prop := fnExactOrderKeyRow.holds Try.pinned (OpenSpec.ofChange fnExactOrderKeySpec)

/-- ITS FALSE NEIGHBOUR: 'it returns false'. Refute it at one input. -/
def fnExactOrderKeyWrong : ChangeSpec := { name := "fnExactOrderKey", fn := fun _ => fun
  | [d] => { results := [.lit (.bool false)], args := [d] }
  | _ => none }
def FnExactOrderKeyWrongFalsely : Prop := fnExactOrderKeyRow.holds Try.pinned (OpenSpec.ofChange fnExactOrderKeyWrong)

/-- 'laws.FnExactParent': WHATEVER THE INPUT: true; the input reads as it did. -/
def fnExactParentSpec : ChangeSpec := { name := "fnExactParent", fn := fun _ => fun
  | [d] => { results := [.lit (.bool true)], args := [d] }
  | _ => none }
def fnExactParentRow : OpenClaim := { program := "ytmpokfmibhkilaa", sum := "5dfe93ab6cb7d5242e684d44c044bcdcfe0e702d6630bd6c7586788bd14af04e", func := "loop.example/g00724/laws.FnExactParent", spec := "fnExactParent", apart := false }
def FnExactParentSaid : Prop := fnExactParentRow.holds Try.pinned (OpenSpec.ofChange fnExactParentSpec)

/-- ITS FALSE NEIGHBOUR: 'it returns false'. Refute it at one input. -/
def fnExactParentWrong : ChangeSpec := { name := "fnExactParent", fn := fun _ => fun
  | [d] => { results := [.lit (.bool false)], args := [d] }
  | _ => none }
def FnExactParentWrongFalsely : Prop := fnExactParentRow.holds Try.pinned (OpenSpec.ofChange fnExactParentWrong)

/- THE SECOND FORM. 'bulk': how many values and letters a reading holds, each counted each time it is reached (what is shared counts as often as it is met; a slice's spare places count too). A statement '..UptoSaid' is the law's where the arguments, and the package variables that the reading takes, are together of bulk at most 1048576: NARROWER than '..Said'. Prove '..Said' where nothing that the law and all that it calls make is longer than what came in: it says more and counts as full. Else prove '..UptoSaid'. A law counts once. -/
mutual
def uptoBulk {H : Type} : DataW H → Nat
  | .lit (.string bytes) => bytes.length + 1
  | .lit _ => 1
  | .nil => 1
  | .ptr d => uptoBulk d + 1
  | .slice elems spare => uptoBulkAll elems + uptoBulkAll spare + 1
  | .agg parts => uptoBulkAll parts + 1
  | .iface _ d => uptoBulk d + 1
  | .map entries => uptoBulkEntries entries + 1
  | .held _ => 1
def uptoBulkAll {H : Type} : List (DataW H) → Nat
  | [] => 0
  | d :: r => uptoBulk d + uptoBulkAll r
def uptoBulkEntries {H : Type} : List (Lit × DataW H) → Nat
  | [] => 0
  | x :: r => uptoBulkEntry x + uptoBulkEntries r
def uptoBulkEntry {H : Type} : Lit × DataW H → Nat
  | (.string bytes, d) => bytes.length + uptoBulk d + 1
  | (_, d) => uptoBulk d + 1
 end
def uptoSmall : (H : Type) → List (DataW H) → Bool := fun _ ds => decide (uptoBulkAll ds ≤ 1048576)
def OpenSpec.upto (s : _root_.Go.ChangeSpec) : _root_.Go.OpenSpec := { _root_.Go.OpenSpec.ofChange s with cond := some uptoSmall }

/-- 'laws.FnExactConstants', WHERE WHAT IT READS IS OF BULK AT MOST 1048576: true; the input reads as it did. -/
def fnExactConstantsUptoRow : OpenClaim := { program := "ytmpokfmibhkilaa", sum := "5dfe93ab6cb7d5242e684d44c044bcdcfe0e702d6630bd6c7586788bd14af04e", func := "loop.example/g00724/laws.FnExactConstants", spec := "fnExactConstants", apart := false, narrowed := true }
def FnExactConstantsUptoSaid : Prop := fnExactConstantsUptoRow.holds Try.pinned (OpenSpec.upto fnExactConstantsSpec)

/-- 'laws.FnExactUnpack', WHERE WHAT IT READS IS OF BULK AT MOST 1048576: true; the input reads as it did. -/
def fnExactUnpackUptoRow : OpenClaim := { program := "ytmpokfmibhkilaa", sum := "5dfe93ab6cb7d5242e684d44c044bcdcfe0e702d6630bd6c7586788bd14af04e", func := "loop.example/g00724/laws.FnExactUnpack", spec := "fnExactUnpack", apart := false, narrowed := true }
def FnExactUnpackUptoSaid : Prop := fnExactUnpackUptoRow.holds Try.pinned (OpenSpec.upto fnExactUnpackSpec)

/-- 'laws.FnExactHash', WHERE WHAT IT READS IS OF BULK AT MOST 1048576: true; the input reads as it did. -/
def fnExactHashUptoRow : OpenClaim := { program := "ytmpokfmibhkilaa", sum := "5dfe93ab6cb7d5242e684d44c044bcdcfe0e702d6630bd6c7586788bd14af04e", func := "loop.example/g00724/laws.FnExactHash", spec := "fnExactHash", apart := false, narrowed := true }
def FnExactHashUptoSaid : Prop := fnExactHashUptoRow.holds Try.pinned (OpenSpec.upto fnExactHashSpec)

/-- 'laws.FnExactNextTag', WHERE WHAT IT READS IS OF BULK AT MOST 1048576: true; the input reads as it did. -/
def fnExactNextTagUptoRow : OpenClaim := { program := "ytmpokfmibhkilaa", sum := "5dfe93ab6cb7d5242e684d44c044bcdcfe0e702d6630bd6c7586788bd14af04e", func := "loop.example/g00724/laws.FnExactNextTag", spec := "fnExactNextTag", apart := false, narrowed := true }
def FnExactNextTagUptoSaid : Prop := fnExactNextTagUptoRow.holds Try.pinned (OpenSpec.upto fnExactNextTagSpec)

/-- 'laws.FnExactPack', WHERE WHAT IT READS IS OF BULK AT MOST 1048576: true; the input reads as it did. -/
def fnExactPackUptoRow : OpenClaim := { program := "ytmpokfmibhkilaa", sum := "5dfe93ab6cb7d5242e684d44c044bcdcfe0e702d6630bd6c7586788bd14af04e", func := "loop.example/g00724/laws.FnExactPack", spec := "fnExactPack", apart := false, narrowed := true }
def FnExactPackUptoSaid : Prop := fnExactPackUptoRow.holds Try.pinned (OpenSpec.upto fnExactPackSpec)

/-- 'laws.FnExactBucket', WHERE WHAT IT READS IS OF BULK AT MOST 1048576: true; the input reads as it did. -/
def fnExactBucketUptoRow : OpenClaim := { program := "ytmpokfmibhkilaa", sum := "5dfe93ab6cb7d5242e684d44c044bcdcfe0e702d6630bd6c7586788bd14af04e", func := "loop.example/g00724/laws.FnExactBucket", spec := "fnExactBucket", apart := false, narrowed := true }
def FnExactBucketUptoSaid : Prop := fnExactBucketUptoRow.holds Try.pinned (OpenSpec.upto fnExactBucketSpec)

/-- 'laws.FnExactMod', WHERE WHAT IT READS IS OF BULK AT MOST 1048576: true; the input reads as it did. -/
def fnExactModUptoRow : OpenClaim := { program := "ytmpokfmibhkilaa", sum := "5dfe93ab6cb7d5242e684d44c044bcdcfe0e702d6630bd6c7586788bd14af04e", func := "loop.example/g00724/laws.FnExactMod", spec := "fnExactMod", apart := false, narrowed := true }
def FnExactModUptoSaid : Prop := fnExactModUptoRow.holds Try.pinned (OpenSpec.upto fnExactModSpec)

/-- 'laws.FnExactNumText', WHERE WHAT IT READS IS OF BULK AT MOST 1048576: true; the input reads as it did. -/
def fnExactNumTextUptoRow : OpenClaim := { program := "ytmpokfmibhkilaa", sum := "5dfe93ab6cb7d5242e684d44c044bcdcfe0e702d6630bd6c7586788bd14af04e", func := "loop.example/g00724/laws.FnExactNumText", spec := "fnExactNumText", recurses := true, apart := false, narrowed := true }
def FnExactNumTextUptoSaid : Prop := fnExactNumTextUptoRow.holds Try.pinned (OpenSpec.upto fnExactNumTextSpec)

/-- 'laws.FnExactFlip', WHERE WHAT IT READS IS OF BULK AT MOST 1048576: true; the input reads as it did. -/
def fnExactFlipUptoRow : OpenClaim := { program := "ytmpokfmibhkilaa", sum := "5dfe93ab6cb7d5242e684d44c044bcdcfe0e702d6630bd6c7586788bd14af04e", func := "loop.example/g00724/laws.FnExactFlip", spec := "fnExactFlip", apart := false, narrowed := true }
def FnExactFlipUptoSaid : Prop := fnExactFlipUptoRow.holds Try.pinned (OpenSpec.upto fnExactFlipSpec)

/-- 'laws.FnExactDummyKey', WHERE WHAT IT READS IS OF BULK AT MOST 1048576: true; the input reads as it did. -/
def fnExactDummyKeyUptoRow : OpenClaim := { program := "ytmpokfmibhkilaa", sum := "5dfe93ab6cb7d5242e684d44c044bcdcfe0e702d6630bd6c7586788bd14af04e", func := "loop.example/g00724/laws.FnExactDummyKey", spec := "fnExactDummyKey", apart := false, narrowed := true }
def FnExactDummyKeyUptoSaid : Prop := fnExactDummyKeyUptoRow.holds Try.pinned (OpenSpec.upto fnExactDummyKeySpec)

/-- 'laws.FnExactOrderKey', WHERE WHAT IT READS IS OF BULK AT MOST 1048576: true; the input reads as it did. -/
def fnExactOrderKeyUptoRow : OpenClaim := { program := "ytmpokfmibhkilaa", sum := "5dfe93ab6cb7d5242e684d44c044bcdcfe0e702d6630bd6c7586788bd14af04e", func := "loop.example/g00724/laws.FnExactOrderKey", spec := "fnExactOrderKey", apart := false, narrowed := true }
def FnExactOrderKeyUptoSaid : Prop := fnExactOrderKeyUptoRow.holds Try.pinned (OpenSpec.upto fnExactOrderKeySpec)

/-- 'laws.FnExactParent', WHERE WHAT IT READS IS OF BULK AT MOST 1048576: true; the input reads as it did. -/
def fnExactParentUptoRow : OpenClaim := { program := "ytmpokfmibhkilaa", sum := "5dfe93ab6cb7d5242e684d44c044bcdcfe0e702d6630bd6c7586788bd14af04e", func := "loop.example/g00724/laws.FnExactParent", spec := "fnExactParent", apart := false, narrowed := true }
def FnExactParentUptoSaid : Prop := fnExactParentUptoRow.holds Try.pinned (OpenSpec.upto fnExactParentSpec)

end Rows
end Go.Proofs.Ytmpokfmibhkilaa
