/-
  No cell of these rows narrows 'for every input' (looked for: loops, veiled, ifaces, maps, wideKeys, modest, calm, conditions, laid).
  DERIVED. THE GIVEN ROWS OF THIS SEAT. 8 by the template 'for every input the law returns true; each argument reads behind the call as it read before'; 0 by the template 'total and deterministic' (their statements: YtgghglocfdcegaaTotals.lean).
  GIVEN WITH THE SEED: the statements are not yours to turn. If you find one false, say at which input.
  Laid BY PROGRAM, IN A SANDBOX (cutbox-rows.mjs): the forced cells as the released guide's own fill.sh prints them over the translation b7e62387d450bde6… (all of the seat's roots in one cut). By AI agents, Wed Nov 11 2026. No macro, syntax, notation, axiom, sorry.
-/
import Derived.Test.YtgghglocfdcegaaChecked
import GoSem.Claim
import GoSem.ClaimJoined
import GoSem.ClaimMapViews
import Derived.JoinedTies
import Derived.KernelRfl
namespace Go.Proofs.Ytgghglocfdcegaa
/- THE CELL 'sum', in the pinned program and in every row, IS THE sha256 OF THE DUMP (.gsa) THAT YtgghglocfdcegaaProg.lean LOADS. Nothing in Lean hashes anything: it is a label: what it is worth is what the hold of that sum in a sandbox is worth. -/
noncomputable def Try.pinned : Pinned := { name := "ytgghglocfdcegaa", sum := "b7e62387d450bde62cc73e9785f716da3679dffcd8370909073d731a10376444", checked := Try.checked }
namespace Rows
def none {H : Type} : Left H := { results := [], args := [] }

/-- 'laws.FnExactCrewNew': WHATEVER THE INPUT: true; the input reads as it did. -/
def fnExactCrewNewSpec : ChangeSpec := { name := "fnExactCrewNew", fn := fun _ => fun
  | [d1, d2, d3, d4] => { results := [.lit (.bool true)], args := [d1, d2, d3, d4] }
  | _ => none }
def fnExactCrewNewRow : OpenClaim := { program := "ytgghglocfdcegaa", sum := "b7e62387d450bde62cc73e9785f716da3679dffcd8370909073d731a10376444", func := "loop.example/g00724/laws.FnExactCrewNew", spec := "fnExactCrewNew", apart := false }
def FnExactCrewNewSaid : Prop := fnExactCrewNewRow.holds Try.pinned (OpenSpec.ofChange fnExactCrewNewSpec)

/-- ITS FALSE NEIGHBOUR: 'it returns false'. Refute it at one input. -/
def fnExactCrewNewWrong : ChangeSpec := { name := "fnExactCrewNew", fn := fun _ => fun
  | [d1, d2, d3, d4] => { results := [.lit (.bool false)], args := [d1, d2, d3, d4] }
  | _ => none }
def FnExactCrewNewWrongFalsely : Prop := fnExactCrewNewRow.holds Try.pinned (OpenSpec.ofChange fnExactCrewNewWrong)

/-- 'laws.FnExactCrewOk': WHATEVER THE INPUT: true; the input reads as it did. -/
def fnExactCrewOkSpec : ChangeSpec := { name := "fnExactCrewOk", fn := fun _ => fun
  | [d] => { results := [.lit (.bool true)], args := [d] }
  | _ => none }
def fnExactCrewOkRow : OpenClaim := { program := "ytgghglocfdcegaa", sum := "b7e62387d450bde62cc73e9785f716da3679dffcd8370909073d731a10376444", func := "loop.example/g00724/laws.FnExactCrewOk", spec := "fnExactCrewOk", apart := false }
def FnExactCrewOkSaid : Prop := fnExactCrewOkRow.holds Try.pinned (OpenSpec.ofChange fnExactCrewOkSpec)

/-- ITS FALSE NEIGHBOUR: 'it returns false'. Refute it at one input. -/
def fnExactCrewOkWrong : ChangeSpec := { name := "fnExactCrewOk", fn := fun _ => fun
  | [d] => { results := [.lit (.bool false)], args := [d] }
  | _ => none }
def FnExactCrewOkWrongFalsely : Prop := fnExactCrewOkRow.holds Try.pinned (OpenSpec.ofChange fnExactCrewOkWrong)

/-- 'laws.FnExactAble': WHATEVER THE INPUT: true; the input reads as it did. -/
def fnExactAbleSpec : ChangeSpec := { name := "fnExactAble", fn := fun _ => fun
  | [d] => { results := [.lit (.bool true)], args := [d] }
  | _ => none }
def fnExactAbleRow : OpenClaim := { program := "ytgghglocfdcegaa", sum := "b7e62387d450bde62cc73e9785f716da3679dffcd8370909073d731a10376444", func := "loop.example/g00724/laws.FnExactAble", spec := "fnExactAble", apart := false }
def FnExactAbleSaid : Prop := fnExactAbleRow.holds Try.pinned (OpenSpec.ofChange fnExactAbleSpec)

/-- ITS FALSE NEIGHBOUR: 'it returns false'. Refute it at one input. -/
def fnExactAbleWrong : ChangeSpec := { name := "fnExactAble", fn := fun _ => fun
  | [d] => { results := [.lit (.bool false)], args := [d] }
  | _ => none }
def FnExactAbleWrongFalsely : Prop := fnExactAbleRow.holds Try.pinned (OpenSpec.ofChange fnExactAbleWrong)

/-- 'laws.FnExactPopped': WHATEVER THE INPUT: true; the input reads as it did. -/
def fnExactPoppedSpec : ChangeSpec := { name := "fnExactPopped", fn := fun _ => fun
  | [d] => { results := [.lit (.bool true)], args := [d] }
  | _ => none }
def fnExactPoppedRow : OpenClaim := { program := "ytgghglocfdcegaa", sum := "b7e62387d450bde62cc73e9785f716da3679dffcd8370909073d731a10376444", func := "loop.example/g00724/laws.FnExactPopped", spec := "fnExactPopped", apart := false }
def FnExactPoppedSaid : Prop := fnExactPoppedRow.holds Try.pinned (OpenSpec.ofChange fnExactPoppedSpec)

/-- ITS FALSE NEIGHBOUR: 'it returns false'. Refute it at one input. -/
def fnExactPoppedWrong : ChangeSpec := { name := "fnExactPopped", fn := fun _ => fun
  | [d] => { results := [.lit (.bool false)], args := [d] }
  | _ => none }
def FnExactPoppedWrongFalsely : Prop := fnExactPoppedRow.holds Try.pinned (OpenSpec.ofChange fnExactPoppedWrong)

/-- 'laws.FnExactRest': WHATEVER THE INPUT: true; the input reads as it did. -/
def fnExactRestSpec : ChangeSpec := { name := "fnExactRest", fn := fun _ => fun
  | [d] => { results := [.lit (.bool true)], args := [d] }
  | _ => none }
def fnExactRestRow : OpenClaim := { program := "ytgghglocfdcegaa", sum := "b7e62387d450bde62cc73e9785f716da3679dffcd8370909073d731a10376444", func := "loop.example/g00724/laws.FnExactRest", spec := "fnExactRest", apart := false }
def FnExactRestSaid : Prop := fnExactRestRow.holds Try.pinned (OpenSpec.ofChange fnExactRestSpec)

/-- ITS FALSE NEIGHBOUR: 'it returns false'. Refute it at one input. -/
def fnExactRestWrong : ChangeSpec := { name := "fnExactRest", fn := fun _ => fun
  | [d] => { results := [.lit (.bool false)], args := [d] }
  | _ => none }
def FnExactRestWrongFalsely : Prop := fnExactRestRow.holds Try.pinned (OpenSpec.ofChange fnExactRestWrong)

/-- 'laws.FnExactFacts': WHATEVER THE INPUT: true; the input reads as it did. -/
def fnExactFactsSpec : ChangeSpec := { name := "fnExactFacts", fn := fun _ => fun
  | [d] => { results := [.lit (.bool true)], args := [d] }
  | _ => none }
def fnExactFactsRow : OpenClaim := { program := "ytgghglocfdcegaa", sum := "b7e62387d450bde62cc73e9785f716da3679dffcd8370909073d731a10376444", func := "loop.example/g00724/laws.FnExactFacts", spec := "fnExactFacts", apart := false }
def FnExactFactsSaid : Prop := fnExactFactsRow.holds Try.pinned (OpenSpec.ofChange fnExactFactsSpec)

/-- ITS FALSE NEIGHBOUR: 'it returns false'. Refute it at one input. -/
def fnExactFactsWrong : ChangeSpec := { name := "fnExactFacts", fn := fun _ => fun
  | [d] => { results := [.lit (.bool false)], args := [d] }
  | _ => none }
def FnExactFactsWrongFalsely : Prop := fnExactFactsRow.holds Try.pinned (OpenSpec.ofChange fnExactFactsWrong)

/-- 'laws.FnExactInTime': WHATEVER THE INPUT: true; the input reads as it did. -/
def fnExactInTimeSpec : ChangeSpec := { name := "fnExactInTime", fn := fun _ => fun
  | [d] => { results := [.lit (.bool true)], args := [d] }
  | _ => none }
def fnExactInTimeRow : OpenClaim := { program := "ytgghglocfdcegaa", sum := "b7e62387d450bde62cc73e9785f716da3679dffcd8370909073d731a10376444", func := "loop.example/g00724/laws.FnExactInTime", spec := "fnExactInTime", unfollowed := true, recurses := true, apart := false }
def FnExactInTimeSaid : Prop := fnExactInTimeRow.holds Try.pinned (OpenSpec.ofChange fnExactInTimeSpec)

/-- ITS FALSE NEIGHBOUR: 'it returns false'. Refute it at one input. -/
def fnExactInTimeWrong : ChangeSpec := { name := "fnExactInTime", fn := fun _ => fun
  | [d] => { results := [.lit (.bool false)], args := [d] }
  | _ => none }
def FnExactInTimeWrongFalsely : Prop := fnExactInTimeRow.holds Try.pinned (OpenSpec.ofChange fnExactInTimeWrong)

/-- 'laws.FnExactRingGood': WHATEVER THE INPUT: true; the input reads as it did. -/
def fnExactRingGoodSpec : ChangeSpec := { name := "fnExactRingGood", fn := fun _ => fun
  | [d1, d2] => { results := [.lit (.bool true)], args := [d1, d2] }
  | _ => none }
def fnExactRingGoodRow : OpenClaim := { program := "ytgghglocfdcegaa", sum := "b7e62387d450bde62cc73e9785f716da3679dffcd8370909073d731a10376444", func := "loop.example/g00724/laws.FnExactRingGood", spec := "fnExactRingGood", unfollowed := true, recurses := true, apart := false }
def FnExactRingGoodSaid : Prop := fnExactRingGoodRow.holds Try.pinned (OpenSpec.ofChange fnExactRingGoodSpec)

/-- ITS FALSE NEIGHBOUR: 'it returns false'. Refute it at one input. -/
def fnExactRingGoodWrong : ChangeSpec := { name := "fnExactRingGood", fn := fun _ => fun
  | [d1, d2] => { results := [.lit (.bool false)], args := [d1, d2] }
  | _ => none }
def FnExactRingGoodWrongFalsely : Prop := fnExactRingGoodRow.holds Try.pinned (OpenSpec.ofChange fnExactRingGoodWrong)

/- THE SECOND FORM. 'bulk': how many values and letters a reading holds, each counted each time it is reached (what is shared counts as often as it is met; a slice's spare places count too). A statement '..UptoSaid' is the law's where the arguments, and the package variables that the reading takes, are together of bulk at most 1048576: NARROWER than '..Said'. Prove '..Said' where nothing that the law and all that it calls make is longer than what came in: it says more and counts as full. Else prove '..UptoSaid'. A law counts once. -/
mutual
def uptoBulk {H : Type} : DataW H → Nat
  | .lit (.string bytes) => bytes.length + 1
  | .lit _ => 1
  | .nil => 1
  | .ptr d => uptoBulk d + 1
  | .slice elems spare => uptoBulkAll elems + uptoBulkAll spare + 1
  | .agg parts => uptoBulkAll parts + 1
  | .iface _ d => uptoBulk d + 1
  | .map entries => uptoBulkEntries entries + 1
  | .held _ => 1
def uptoBulkAll {H : Type} : List (DataW H) → Nat
  | [] => 0
  | d :: r => uptoBulk d + uptoBulkAll r
def uptoBulkEntries {H : Type} : List (Lit × DataW H) → Nat
  | [] => 0
  | x :: r => uptoBulkEntry x + uptoBulkEntries r
def uptoBulkEntry {H : Type} : Lit × DataW H → Nat
  | (.string bytes, d) => bytes.length + uptoBulk d + 1
  | (_, d) => uptoBulk d + 1
 end
def uptoSmall : (H : Type) → List (DataW H) → Bool := fun _ ds => decide (uptoBulkAll ds ≤ 1048576)
def OpenSpec.upto (s : _root_.Go.ChangeSpec) : _root_.Go.OpenSpec := { _root_.Go.OpenSpec.ofChange s with cond := some uptoSmall }

/-- 'laws.FnExactCrewNew', WHERE WHAT IT READS IS OF BULK AT MOST 1048576: true; the input reads as it did. -/
def fnExactCrewNewUptoRow : OpenClaim := { program := "ytgghglocfdcegaa", sum := "b7e62387d450bde62cc73e9785f716da3679dffcd8370909073d731a10376444", func := "loop.example/g00724/laws.FnExactCrewNew", spec := "fnExactCrewNew", apart := false, narrowed := true }
def FnExactCrewNewUptoSaid : Prop := fnExactCrewNewUptoRow.holds Try.pinned (OpenSpec.upto fnExactCrewNewSpec)

/-- 'laws.FnExactCrewOk', WHERE WHAT IT READS IS OF BULK AT MOST 1048576: true; the input reads as it did. -/
def fnExactCrewOkUptoRow : OpenClaim := { program := "ytgghglocfdcegaa", sum := "b7e62387d450bde62cc73e9785f716da3679dffcd8370909073d731a10376444", func := "loop.example/g00724/laws.FnExactCrewOk", spec := "fnExactCrewOk", apart := false, narrowed := true }
def FnExactCrewOkUptoSaid : Prop := fnExactCrewOkUptoRow.holds Try.pinned (OpenSpec.upto fnExactCrewOkSpec)

/-- 'laws.FnExactAble', WHERE WHAT IT READS IS OF BULK AT MOST 1048576: true; the input reads as it did. -/
def fnExactAbleUptoRow : OpenClaim := { program := "ytgghglocfdcegaa", sum := "b7e62387d450bde62cc73e9785f716da3679dffcd8370909073d731a10376444", func := "loop.example/g00724/laws.FnExactAble", spec := "fnExactAble", apart := false, narrowed := true }
def FnExactAbleUptoSaid : Prop := fnExactAbleUptoRow.holds Try.pinned (OpenSpec.upto fnExactAbleSpec)

/-- 'laws.FnExactPopped', WHERE WHAT IT READS IS OF BULK AT MOST 1048576: true; the input reads as it did. -/
def fnExactPoppedUptoRow : OpenClaim := { program := "ytgghglocfdcegaa", sum := "b7e62387d450bde62cc73e9785f716da3679dffcd8370909073d731a10376444", func := "loop.example/g00724/laws.FnExactPopped", spec := "fnExactPopped", apart := false, narrowed := true }
def FnExactPoppedUptoSaid : Prop := fnExactPoppedUptoRow.holds Try.pinned (OpenSpec.upto fnExactPoppedSpec)

/-- 'laws.FnExactRest', WHERE WHAT IT READS IS OF BULK AT MOST 1048576: true; the input reads as it did. -/
def fnExactRestUptoRow : OpenClaim := { program := "ytgghglocfdcegaa", sum := "b7e62387d450bde62cc73e9785f716da3679dffcd8370909073d731a10376444", func := "loop.example/g00724/laws.FnExactRest", spec := "fnExactRest", apart := false, narrowed := true }
def FnExactRestUptoSaid : Prop := fnExactRestUptoRow.holds Try.pinned (OpenSpec.upto fnExactRestSpec)

/-- 'laws.FnExactFacts', WHERE WHAT IT READS IS OF BULK AT MOST 1048576: true; the input reads as it did. -/
def fnExactFactsUptoRow : OpenClaim := { program := "ytgghglocfdcegaa", sum := "b7e62387d450bde62cc73e9785f716da3679dffcd8370909073d731a10376444", func := "loop.example/g00724/laws.FnExactFacts", spec := "fnExactFacts", apart := false, narrowed := true }
def FnExactFactsUptoSaid : Prop := fnExactFactsUptoRow.holds Try.pinned (OpenSpec.upto fnExactFactsSpec)

/-- 'laws.FnExactInTime', WHERE WHAT IT READS IS OF BULK AT MOST 1048576: true; the input reads as it did. -/
def fnExactInTimeUptoRow : OpenClaim := { program := "ytgghglocfdcegaa", sum := "b7e62387d450bde62cc73e9785f716da3679dffcd8370909073d731a10376444", func := "loop.example/g00724/laws.FnExactInTime", spec := "fnExactInTime", unfollowed := true, recurses := true, apart := false, narrowed := true }
def FnExactInTimeUptoSaid : Prop := fnExactInTimeUptoRow.holds Try.pinned (OpenSpec.upto fnExactInTimeSpec)

/-- 'laws.FnExactRingGood', WHERE WHAT IT READS IS OF BULK AT MOST 1048576: true; the input reads as it did. -/
def fnExactRingGoodUptoRow : OpenClaim := { program := "ytgghglocfdcegaa", sum := "b7e62387d450bde62cc73e9785f716da3679dffcd8370909073d731a10376444", func := "loop.example/g00724/laws.FnExactRingGood", spec := "fnExactRingGood", unfollowed := true, recurses := true, apart := false, narrowed := true }
def FnExactRingGoodUptoSaid : Prop := fnExactRingGoodUptoRow.holds Try.pinned (OpenSpec.upto fnExactRingGoodSpec)

end Rows
end Go.Proofs.Ytgghglocfdcegaa
