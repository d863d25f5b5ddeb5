/-
  No cell of these rows narrows 'for every input' (looked for: loops, veiled, ifaces, maps, wideKeys, modest, calm, conditions, laid).
  DERIVED. THE GIVEN ROWS OF THIS SEAT. 15 by the template 'for every input the law returns true; each argument reads behind the call as it read before'; 0 by the template 'total and deterministic' (their statements: YtmphkogaclfjmaaTotals.lean).
  GIVEN WITH THE SEED: the statements are not yours to turn. If you find one false, say at which input.
  Laid BY PROGRAM, IN A SANDBOX (cutbox-rows.mjs): the forced cells as the released guide's own fill.sh prints them over the translation 5d46e0658f21f88d… (all of the seat's roots in one cut). By AI agents, Wed Nov 11 2026. No macro, syntax, notation, axiom, sorry.
-/
import Derived.Test.YtmphkogaclfjmaaChecked
import GoSem.Claim
import GoSem.ClaimJoined
import GoSem.ClaimMapViews
import Derived.JoinedTies
import Derived.KernelRfl
namespace Go.Proofs.Ytmphkogaclfjmaa
/- THE CELL 'sum', in the pinned program and in every row, IS THE sha256 OF THE DUMP (.gsa) THAT YtmphkogaclfjmaaProg.lean LOADS. Nothing in Lean hashes anything: it is a label: what it is worth is what the hold of that sum in a sandbox is worth. -/
noncomputable def Try.pinned : Pinned := { name := "ytmphkogaclfjmaa", sum := "5d46e0658f21f88d8a5a21e2ce8cee6319a48e4670b0151cadb5ee02b7223788", checked := Try.checked }
namespace Rows
def none {H : Type} : Left H := { results := [], args := [] }

/-- 'laws.FnExactCaptureValid': WHATEVER THE INPUT: true; the input reads as it did. -/
def fnExactCaptureValidSpec : ChangeSpec := { name := "fnExactCaptureValid", fn := fun _ => fun
  | [d] => { results := [.lit (.bool true)], args := [d] }
  | _ => none }
def fnExactCaptureValidRow : OpenClaim := { program := "ytmphkogaclfjmaa", sum := "5d46e0658f21f88d8a5a21e2ce8cee6319a48e4670b0151cadb5ee02b7223788", func := "loop.example/capturemonitor/laws.FnExactCaptureValid", spec := "fnExactCaptureValid", apart := false }
def FnExactCaptureValidSaid : Prop := fnExactCaptureValidRow.holds Try.pinned (OpenSpec.ofChange fnExactCaptureValidSpec)

/-- ITS FALSE NEIGHBOUR: 'it returns false'. Refute it at one input. -/
def fnExactCaptureValidWrong : ChangeSpec := { name := "fnExactCaptureValid", fn := fun _ => fun
  | [d] => { results := [.lit (.bool false)], args := [d] }
  | _ => none }
def FnExactCaptureValidWrongFalsely : Prop := fnExactCaptureValidRow.holds Try.pinned (OpenSpec.ofChange fnExactCaptureValidWrong)

/-- 'laws.FnCapturePart': WHATEVER THE INPUT: true; the input reads as it did. -/
def fnCapturePartSpec : ChangeSpec := { name := "fnCapturePart", fn := fun _ => fun
  | [d1, d2] => { results := [.lit (.bool true)], args := [d1, d2] }
  | _ => none }
def fnCapturePartRow : OpenClaim := { program := "ytmphkogaclfjmaa", sum := "5d46e0658f21f88d8a5a21e2ce8cee6319a48e4670b0151cadb5ee02b7223788", func := "loop.example/capturemonitor/laws.FnCapturePart", spec := "fnCapturePart", apart := false }
def FnCapturePartSaid : Prop := fnCapturePartRow.holds Try.pinned (OpenSpec.ofChange fnCapturePartSpec)

/-- ITS FALSE NEIGHBOUR: 'it returns false'. Refute it at one input. -/
def fnCapturePartWrong : ChangeSpec := { name := "fnCapturePart", fn := fun _ => fun
  | [d1, d2] => { results := [.lit (.bool false)], args := [d1, d2] }
  | _ => none }
def FnCapturePartWrongFalsely : Prop := fnCapturePartRow.holds Try.pinned (OpenSpec.ofChange fnCapturePartWrong)

/-- 'laws.FnCaptureTimes': WHATEVER THE INPUT: true; the input reads as it did. -/
def fnCaptureTimesSpec : ChangeSpec := { name := "fnCaptureTimes", fn := fun _ => fun
  | [d] => { results := [.lit (.bool true)], args := [d] }
  | _ => none }
def fnCaptureTimesRow : OpenClaim := { program := "ytmphkogaclfjmaa", sum := "5d46e0658f21f88d8a5a21e2ce8cee6319a48e4670b0151cadb5ee02b7223788", func := "loop.example/capturemonitor/laws.FnCaptureTimes", spec := "fnCaptureTimes", apart := false }
def FnCaptureTimesSaid : Prop := fnCaptureTimesRow.holds Try.pinned (OpenSpec.ofChange fnCaptureTimesSpec)

/-- ITS FALSE NEIGHBOUR: 'it returns false'. Refute it at one input. -/
def fnCaptureTimesWrong : ChangeSpec := { name := "fnCaptureTimes", fn := fun _ => fun
  | [d] => { results := [.lit (.bool false)], args := [d] }
  | _ => none }
def FnCaptureTimesWrongFalsely : Prop := fnCaptureTimesRow.holds Try.pinned (OpenSpec.ofChange fnCaptureTimesWrong)

/-- 'laws.FnExactCaptureBegin': WHATEVER THE INPUT: true; the input reads as it did. -/
def fnExactCaptureBeginSpec : ChangeSpec := { name := "fnExactCaptureBegin", fn := fun _ => fun
  | [d] => { results := [.lit (.bool true)], args := [d] }
  | _ => none }
def fnExactCaptureBeginRow : OpenClaim := { program := "ytmphkogaclfjmaa", sum := "5d46e0658f21f88d8a5a21e2ce8cee6319a48e4670b0151cadb5ee02b7223788", func := "loop.example/capturemonitor/laws.FnExactCaptureBegin", spec := "fnExactCaptureBegin", apart := false }
def FnExactCaptureBeginSaid : Prop := fnExactCaptureBeginRow.holds Try.pinned (OpenSpec.ofChange fnExactCaptureBeginSpec)

/-- ITS FALSE NEIGHBOUR: 'it returns false'. Refute it at one input. -/
def fnExactCaptureBeginWrong : ChangeSpec := { name := "fnExactCaptureBegin", fn := fun _ => fun
  | [d] => { results := [.lit (.bool false)], args := [d] }
  | _ => none }
def FnExactCaptureBeginWrongFalsely : Prop := fnExactCaptureBeginRow.holds Try.pinned (OpenSpec.ofChange fnExactCaptureBeginWrong)

/-- 'laws.FnExactCaptureGet': WHATEVER THE INPUT: true; the input reads as it did. -/
def fnExactCaptureGetSpec : ChangeSpec := { name := "fnExactCaptureGet", fn := fun _ => fun
  | [d] => { results := [.lit (.bool true)], args := [d] }
  | _ => none }
def fnExactCaptureGetRow : OpenClaim := { program := "ytmphkogaclfjmaa", sum := "5d46e0658f21f88d8a5a21e2ce8cee6319a48e4670b0151cadb5ee02b7223788", func := "loop.example/capturemonitor/laws.FnExactCaptureGet", spec := "fnExactCaptureGet", apart := false }
def FnExactCaptureGetSaid : Prop := fnExactCaptureGetRow.holds Try.pinned (OpenSpec.ofChange fnExactCaptureGetSpec)

/-- ITS FALSE NEIGHBOUR: 'it returns false'. Refute it at one input. -/
def fnExactCaptureGetWrong : ChangeSpec := { name := "fnExactCaptureGet", fn := fun _ => fun
  | [d] => { results := [.lit (.bool false)], args := [d] }
  | _ => none }
def FnExactCaptureGetWrongFalsely : Prop := fnExactCaptureGetRow.holds Try.pinned (OpenSpec.ofChange fnExactCaptureGetWrong)

/-- 'laws.FnExactCapturePut': WHATEVER THE INPUT: true; the input reads as it did. -/
def fnExactCapturePutSpec : ChangeSpec := { name := "fnExactCapturePut", fn := fun _ => fun
  | [d] => { results := [.lit (.bool true)], args := [d] }
  | _ => none }
def fnExactCapturePutRow : OpenClaim := { program := "ytmphkogaclfjmaa", sum := "5d46e0658f21f88d8a5a21e2ce8cee6319a48e4670b0151cadb5ee02b7223788", func := "loop.example/capturemonitor/laws.FnExactCapturePut", spec := "fnExactCapturePut", apart := false }
def FnExactCapturePutSaid : Prop := fnExactCapturePutRow.holds Try.pinned (OpenSpec.ofChange fnExactCapturePutSpec)

/-- ITS FALSE NEIGHBOUR: 'it returns false'. Refute it at one input. -/
def fnExactCapturePutWrong : ChangeSpec := { name := "fnExactCapturePut", fn := fun _ => fun
  | [d] => { results := [.lit (.bool false)], args := [d] }
  | _ => none }
def FnExactCapturePutWrongFalsely : Prop := fnExactCapturePutRow.holds Try.pinned (OpenSpec.ofChange fnExactCapturePutWrong)

/-- 'laws.FnCapturePutBad': WHATEVER THE INPUT: true; the input reads as it did. -/
def fnCapturePutBadSpec : ChangeSpec := { name := "fnCapturePutBad", fn := fun _ => fun
  | [d] => { results := [.lit (.bool true)], args := [d] }
  | _ => none }
def fnCapturePutBadRow : OpenClaim := { program := "ytmphkogaclfjmaa", sum := "5d46e0658f21f88d8a5a21e2ce8cee6319a48e4670b0151cadb5ee02b7223788", func := "loop.example/capturemonitor/laws.FnCapturePutBad", spec := "fnCapturePutBad", apart := false }
def FnCapturePutBadSaid : Prop := fnCapturePutBadRow.holds Try.pinned (OpenSpec.ofChange fnCapturePutBadSpec)

/-- ITS FALSE NEIGHBOUR: 'it returns false'. Refute it at one input. -/
def fnCapturePutBadWrong : ChangeSpec := { name := "fnCapturePutBad", fn := fun _ => fun
  | [d] => { results := [.lit (.bool false)], args := [d] }
  | _ => none }
def FnCapturePutBadWrongFalsely : Prop := fnCapturePutBadRow.holds Try.pinned (OpenSpec.ofChange fnCapturePutBadWrong)

/-- 'laws.FnCaptureSize': WHATEVER THE INPUT: true; the input reads as it did. -/
def fnCaptureSizeSpec : ChangeSpec := { name := "fnCaptureSize", fn := fun _ => fun
  | [d] => { results := [.lit (.bool true)], args := [d] }
  | _ => none }
def fnCaptureSizeRow : OpenClaim := { program := "ytmphkogaclfjmaa", sum := "5d46e0658f21f88d8a5a21e2ce8cee6319a48e4670b0151cadb5ee02b7223788", func := "loop.example/capturemonitor/laws.FnCaptureSize", spec := "fnCaptureSize", apart := false }
def FnCaptureSizeSaid : Prop := fnCaptureSizeRow.holds Try.pinned (OpenSpec.ofChange fnCaptureSizeSpec)

/-- ITS FALSE NEIGHBOUR: 'it returns false'. Refute it at one input. -/
def fnCaptureSizeWrong : ChangeSpec := { name := "fnCaptureSize", fn := fun _ => fun
  | [d] => { results := [.lit (.bool false)], args := [d] }
  | _ => none }
def FnCaptureSizeWrongFalsely : Prop := fnCaptureSizeRow.holds Try.pinned (OpenSpec.ofChange fnCaptureSizeWrong)

/-- 'laws.FnCaptureRest': WHATEVER THE INPUT: true; the input reads as it did. -/
def fnCaptureRestSpec : ChangeSpec := { name := "fnCaptureRest", fn := fun _ => fun
  | [d] => { results := [.lit (.bool true)], args := [d] }
  | _ => none }
def fnCaptureRestRow : OpenClaim := { program := "ytmphkogaclfjmaa", sum := "5d46e0658f21f88d8a5a21e2ce8cee6319a48e4670b0151cadb5ee02b7223788", func := "loop.example/capturemonitor/laws.FnCaptureRest", spec := "fnCaptureRest", apart := false }
def FnCaptureRestSaid : Prop := fnCaptureRestRow.holds Try.pinned (OpenSpec.ofChange fnCaptureRestSpec)

/-- ITS FALSE NEIGHBOUR: 'it returns false'. Refute it at one input. -/
def fnCaptureRestWrong : ChangeSpec := { name := "fnCaptureRest", fn := fun _ => fun
  | [d] => { results := [.lit (.bool false)], args := [d] }
  | _ => none }
def FnCaptureRestWrongFalsely : Prop := fnCaptureRestRow.holds Try.pinned (OpenSpec.ofChange fnCaptureRestWrong)

/-- 'laws.FnCaptureWord': WHATEVER THE INPUT: true; the input reads as it did. -/
def fnCaptureWordSpec : ChangeSpec := { name := "fnCaptureWord", fn := fun _ => fun
  | [d] => { results := [.lit (.bool true)], args := [d] }
  | _ => none }
def fnCaptureWordRow : OpenClaim := { program := "ytmphkogaclfjmaa", sum := "5d46e0658f21f88d8a5a21e2ce8cee6319a48e4670b0151cadb5ee02b7223788", func := "loop.example/capturemonitor/laws.FnCaptureWord", spec := "fnCaptureWord", apart := false }
def FnCaptureWordSaid : Prop := fnCaptureWordRow.holds Try.pinned (OpenSpec.ofChange fnCaptureWordSpec)

/-- ITS FALSE NEIGHBOUR: 'it returns false'. Refute it at one input. -/
def fnCaptureWordWrong : ChangeSpec := { name := "fnCaptureWord", fn := fun _ => fun
  | [d] => { results := [.lit (.bool false)], args := [d] }
  | _ => none }
def FnCaptureWordWrongFalsely : Prop := fnCaptureWordRow.holds Try.pinned (OpenSpec.ofChange fnCaptureWordWrong)

/-- 'laws.FnCaptureCut': WHATEVER THE INPUT: true; the input reads as it did. -/
def fnCaptureCutSpec : ChangeSpec := { name := "fnCaptureCut", fn := fun _ => fun
  | [d1, d2] => { results := [.lit (.bool true)], args := [d1, d2] }
  | _ => none }
def fnCaptureCutRow : OpenClaim := { program := "ytmphkogaclfjmaa", sum := "5d46e0658f21f88d8a5a21e2ce8cee6319a48e4670b0151cadb5ee02b7223788", func := "loop.example/capturemonitor/laws.FnCaptureCut", spec := "fnCaptureCut", apart := false }
def FnCaptureCutSaid : Prop := fnCaptureCutRow.holds Try.pinned (OpenSpec.ofChange fnCaptureCutSpec)

/-- ITS FALSE NEIGHBOUR: 'it returns false'. Refute it at one input. -/
def fnCaptureCutWrong : ChangeSpec := { name := "fnCaptureCut", fn := fun _ => fun
  | [d1, d2] => { results := [.lit (.bool false)], args := [d1, d2] }
  | _ => none }
def FnCaptureCutWrongFalsely : Prop := fnCaptureCutRow.holds Try.pinned (OpenSpec.ofChange fnCaptureCutWrong)

/-- 'laws.FnCaptureBeginAll': WHATEVER THE INPUT: true; the input reads as it did. -/
def fnCaptureBeginAllSpec : ChangeSpec := { name := "fnCaptureBeginAll", fn := fun _ => fun
  | [d] => { results := [.lit (.bool true)], args := [d] }
  | _ => none }
def fnCaptureBeginAllRow : OpenClaim := { program := "ytmphkogaclfjmaa", sum := "5d46e0658f21f88d8a5a21e2ce8cee6319a48e4670b0151cadb5ee02b7223788", func := "loop.example/capturemonitor/laws.FnCaptureBeginAll", spec := "fnCaptureBeginAll", apart := false }
def FnCaptureBeginAllSaid : Prop := fnCaptureBeginAllRow.holds Try.pinned (OpenSpec.ofChange fnCaptureBeginAllSpec)

/-- ITS FALSE NEIGHBOUR: 'it returns false'. Refute it at one input. -/
def fnCaptureBeginAllWrong : ChangeSpec := { name := "fnCaptureBeginAll", fn := fun _ => fun
  | [d] => { results := [.lit (.bool false)], args := [d] }
  | _ => none }
def FnCaptureBeginAllWrongFalsely : Prop := fnCaptureBeginAllRow.holds Try.pinned (OpenSpec.ofChange fnCaptureBeginAllWrong)

/-- 'laws.FnCapturePut': WHATEVER THE INPUT: true; the input reads as it did. -/
def fnCapturePutSpec : ChangeSpec := { name := "fnCapturePut", fn := fun _ => fun
  | [d] => { results := [.lit (.bool true)], args := [d] }
  | _ => none }
def fnCapturePutRow : OpenClaim := { program := "ytmphkogaclfjmaa", sum := "5d46e0658f21f88d8a5a21e2ce8cee6319a48e4670b0151cadb5ee02b7223788", func := "loop.example/capturemonitor/laws.FnCapturePut", spec := "fnCapturePut", apart := false }
def FnCapturePutSaid : Prop := fnCapturePutRow.holds Try.pinned (OpenSpec.ofChange fnCapturePutSpec)

/-- ITS FALSE NEIGHBOUR: 'it returns false'. Refute it at one input. -/
def fnCapturePutWrong : ChangeSpec := { name := "fnCapturePut", fn := fun _ => fun
  | [d] => { results := [.lit (.bool false)], args := [d] }
  | _ => none }
def FnCapturePutWrongFalsely : Prop := fnCapturePutRow.holds Try.pinned (OpenSpec.ofChange fnCapturePutWrong)

/-- 'laws.FnCaptureBegin': WHATEVER THE INPUT: true; the input reads as it did. -/
def fnCaptureBeginSpec : ChangeSpec := { name := "fnCaptureBegin", fn := fun _ => fun
  | [d] => { results := [.lit (.bool true)], args := [d] }
  | _ => none }
def fnCaptureBeginRow : OpenClaim := { program := "ytmphkogaclfjmaa", sum := "5d46e0658f21f88d8a5a21e2ce8cee6319a48e4670b0151cadb5ee02b7223788", func := "loop.example/capturemonitor/laws.FnCaptureBegin", spec := "fnCaptureBegin", apart := false }
def FnCaptureBeginSaid : Prop := fnCaptureBeginRow.holds Try.pinned (OpenSpec.ofChange fnCaptureBeginSpec)

/-- ITS FALSE NEIGHBOUR: 'it returns false'. Refute it at one input. -/
def fnCaptureBeginWrong : ChangeSpec := { name := "fnCaptureBegin", fn := fun _ => fun
  | [d] => { results := [.lit (.bool false)], args := [d] }
  | _ => none }
def FnCaptureBeginWrongFalsely : Prop := fnCaptureBeginRow.holds Try.pinned (OpenSpec.ofChange fnCaptureBeginWrong)

/-- 'laws.FnCaptureGet': WHATEVER THE INPUT: true; the input reads as it did. -/
def fnCaptureGetSpec : ChangeSpec := { name := "fnCaptureGet", fn := fun _ => fun
  | [d] => { results := [.lit (.bool true)], args := [d] }
  | _ => none }
def fnCaptureGetRow : OpenClaim := { program := "ytmphkogaclfjmaa", sum := "5d46e0658f21f88d8a5a21e2ce8cee6319a48e4670b0151cadb5ee02b7223788", func := "loop.example/capturemonitor/laws.FnCaptureGet", spec := "fnCaptureGet", apart := false }
def FnCaptureGetSaid : Prop := fnCaptureGetRow.holds Try.pinned (OpenSpec.ofChange fnCaptureGetSpec)

/-- ITS FALSE NEIGHBOUR: 'it returns false'. Refute it at one input. -/
def fnCaptureGetWrong : ChangeSpec := { name := "fnCaptureGet", fn := fun _ => fun
  | [d] => { results := [.lit (.bool false)], args := [d] }
  | _ => none }
def FnCaptureGetWrongFalsely : Prop := fnCaptureGetRow.holds Try.pinned (OpenSpec.ofChange fnCaptureGetWrong)

/- THE SECOND FORM. 'bulk': how many values and letters a reading holds, each counted each time it is reached (what is shared counts as often as it is met; a slice's spare places count too). A statement '..UptoSaid' is the law's where the arguments, and the package variables that the reading takes, are together of bulk at most 1048576: NARROWER than '..Said'. Prove '..Said' where nothing that the law and all that it calls make is longer than what came in: it says more and counts as full. Else prove '..UptoSaid'. A law counts once. -/
mutual
def uptoBulk {H : Type} : DataW H → Nat
  | .lit (.string bytes) => bytes.length + 1
  | .lit _ => 1
  | .nil => 1
  | .ptr d => uptoBulk d + 1
  | .slice elems spare => uptoBulkAll elems + uptoBulkAll spare + 1
  | .agg parts => uptoBulkAll parts + 1
  | .iface _ d => uptoBulk d + 1
  | .map entries => uptoBulkEntries entries + 1
  | .held _ => 1
def uptoBulkAll {H : Type} : List (DataW H) → Nat
  | [] => 0
  | d :: r => uptoBulk d + uptoBulkAll r
def uptoBulkEntries {H : Type} : List (Lit × DataW H) → Nat
  | [] => 0
  | x :: r => uptoBulkEntry x + uptoBulkEntries r
def uptoBulkEntry {H : Type} : Lit × DataW H → Nat
  | (.string bytes, d) => bytes.length + uptoBulk d + 1
  | (_, d) => uptoBulk d + 1
 end
def uptoSmall : (H : Type) → List (DataW H) → Bool := fun _ ds => decide (uptoBulkAll ds ≤ 1048576)
def OpenSpec.upto (s : _root_.Go.ChangeSpec) : _root_.Go.OpenSpec := { _root_.Go.OpenSpec.ofChange s with cond := some uptoSmall }

/-- 'laws.FnExactCaptureValid', WHERE WHAT IT READS IS OF BULK AT MOST 1048576: true; the input reads as it did. -/
def fnExactCaptureValidUptoRow : OpenClaim := { program := "ytmphkogaclfjmaa", sum := "5d46e0658f21f88d8a5a21e2ce8cee6319a48e4670b0151cadb5ee02b7223788", func := "loop.example/capturemonitor/laws.FnExactCaptureValid", spec := "fnExactCaptureValid", apart := false, narrowed := true }
def FnExactCaptureValidUptoSaid : Prop := fnExactCaptureValidUptoRow.holds Try.pinned (OpenSpec.upto fnExactCaptureValidSpec)

/-- 'laws.FnCapturePart', WHERE WHAT IT READS IS OF BULK AT MOST 1048576: true; the input reads as it did. -/
def fnCapturePartUptoRow : OpenClaim := { program := "ytmphkogaclfjmaa", sum := "5d46e0658f21f88d8a5a21e2ce8cee6319a48e4670b0151cadb5ee02b7223788", func := "loop.example/capturemonitor/laws.FnCapturePart", spec := "fnCapturePart", apart := false, narrowed := true }
def FnCapturePartUptoSaid : Prop := fnCapturePartUptoRow.holds Try.pinned (OpenSpec.upto fnCapturePartSpec)

/-- 'laws.FnCaptureTimes', WHERE WHAT IT READS IS OF BULK AT MOST 1048576: true; the input reads as it did. -/
def fnCaptureTimesUptoRow : OpenClaim := { program := "ytmphkogaclfjmaa", sum := "5d46e0658f21f88d8a5a21e2ce8cee6319a48e4670b0151cadb5ee02b7223788", func := "loop.example/capturemonitor/laws.FnCaptureTimes", spec := "fnCaptureTimes", apart := false, narrowed := true }
def FnCaptureTimesUptoSaid : Prop := fnCaptureTimesUptoRow.holds Try.pinned (OpenSpec.upto fnCaptureTimesSpec)

/-- 'laws.FnExactCaptureBegin', WHERE WHAT IT READS IS OF BULK AT MOST 1048576: true; the input reads as it did. -/
def fnExactCaptureBeginUptoRow : OpenClaim := { program := "ytmphkogaclfjmaa", sum := "5d46e0658f21f88d8a5a21e2ce8cee6319a48e4670b0151cadb5ee02b7223788", func := "loop.example/capturemonitor/laws.FnExactCaptureBegin", spec := "fnExactCaptureBegin", apart := false, narrowed := true }
def FnExactCaptureBeginUptoSaid : Prop := fnExactCaptureBeginUptoRow.holds Try.pinned (OpenSpec.upto fnExactCaptureBeginSpec)

/-- 'laws.FnExactCaptureGet', WHERE WHAT IT READS IS OF BULK AT MOST 1048576: true; the input reads as it did. -/
def fnExactCaptureGetUptoRow : OpenClaim := { program := "ytmphkogaclfjmaa", sum := "5d46e0658f21f88d8a5a21e2ce8cee6319a48e4670b0151cadb5ee02b7223788", func := "loop.example/capturemonitor/laws.FnExactCaptureGet", spec := "fnExactCaptureGet", apart := false, narrowed := true }
def FnExactCaptureGetUptoSaid : Prop := fnExactCaptureGetUptoRow.holds Try.pinned (OpenSpec.upto fnExactCaptureGetSpec)

/-- 'laws.FnExactCapturePut', WHERE WHAT IT READS IS OF BULK AT MOST 1048576: true; the input reads as it did. -/
def fnExactCapturePutUptoRow : OpenClaim := { program := "ytmphkogaclfjmaa", sum := "5d46e0658f21f88d8a5a21e2ce8cee6319a48e4670b0151cadb5ee02b7223788", func := "loop.example/capturemonitor/laws.FnExactCapturePut", spec := "fnExactCapturePut", apart := false, narrowed := true }
def FnExactCapturePutUptoSaid : Prop := fnExactCapturePutUptoRow.holds Try.pinned (OpenSpec.upto fnExactCapturePutSpec)

/-- 'laws.FnCapturePutBad', WHERE WHAT IT READS IS OF BULK AT MOST 1048576: true; the input reads as it did. -/
def fnCapturePutBadUptoRow : OpenClaim := { program := "ytmphkogaclfjmaa", sum := "5d46e0658f21f88d8a5a21e2ce8cee6319a48e4670b0151cadb5ee02b7223788", func := "loop.example/capturemonitor/laws.FnCapturePutBad", spec := "fnCapturePutBad", apart := false, narrowed := true }
def FnCapturePutBadUptoSaid : Prop := fnCapturePutBadUptoRow.holds Try.pinned (OpenSpec.upto fnCapturePutBadSpec)

/-- 'laws.FnCaptureSize', WHERE WHAT IT READS IS OF BULK AT MOST 1048576: true; the input reads as it did. -/
def fnCaptureSizeUptoRow : OpenClaim := { program := "ytmphkogaclfjmaa", sum := "5d46e0658f21f88d8a5a21e2ce8cee6319a48e4670b0151cadb5ee02b7223788", func := "loop.example/capturemonitor/laws.FnCaptureSize", spec := "fnCaptureSize", apart := false, narrowed := true }
def FnCaptureSizeUptoSaid : Prop := fnCaptureSizeUptoRow.holds Try.pinned (OpenSpec.upto fnCaptureSizeSpec)

/-- 'laws.FnCaptureRest', WHERE WHAT IT READS IS OF BULK AT MOST 1048576: true; the input reads as it did. -/
def fnCaptureRestUptoRow : OpenClaim := { program := "ytmphkogaclfjmaa", sum := "5d46e0658f21f88d8a5a21e2ce8cee6319a48e4670b0151cadb5ee02b7223788", func := "loop.example/capturemonitor/laws.FnCaptureRest", spec := "fnCaptureRest", apart := false, narrowed := true }
def FnCaptureRestUptoSaid : Prop := fnCaptureRestUptoRow.holds Try.pinned (OpenSpec.upto fnCaptureRestSpec)

/-- 'laws.FnCaptureWord', WHERE WHAT IT READS IS OF BULK AT MOST 1048576: true; the input reads as it did. -/
def fnCaptureWordUptoRow : OpenClaim := { program := "ytmphkogaclfjmaa", sum := "5d46e0658f21f88d8a5a21e2ce8cee6319a48e4670b0151cadb5ee02b7223788", func := "loop.example/capturemonitor/laws.FnCaptureWord", spec := "fnCaptureWord", apart := false, narrowed := true }
def FnCaptureWordUptoSaid : Prop := fnCaptureWordUptoRow.holds Try.pinned (OpenSpec.upto fnCaptureWordSpec)

/-- 'laws.FnCaptureCut', WHERE WHAT IT READS IS OF BULK AT MOST 1048576: true; the input reads as it did. -/
def fnCaptureCutUptoRow : OpenClaim := { program := "ytmphkogaclfjmaa", sum := "5d46e0658f21f88d8a5a21e2ce8cee6319a48e4670b0151cadb5ee02b7223788", func := "loop.example/capturemonitor/laws.FnCaptureCut", spec := "fnCaptureCut", apart := false, narrowed := true }
def FnCaptureCutUptoSaid : Prop := fnCaptureCutUptoRow.holds Try.pinned (OpenSpec.upto fnCaptureCutSpec)

/-- 'laws.FnCaptureBeginAll', WHERE WHAT IT READS IS OF BULK AT MOST 1048576: true; the input reads as it did. -/
def fnCaptureBeginAllUptoRow : OpenClaim := { program := "ytmphkogaclfjmaa", sum := "5d46e0658f21f88d8a5a21e2ce8cee6319a48e4670b0151cadb5ee02b7223788", func := "loop.example/capturemonitor/laws.FnCaptureBeginAll", spec := "fnCaptureBeginAll", apart := false, narrowed := true }
def FnCaptureBeginAllUptoSaid : Prop := fnCaptureBeginAllUptoRow.holds Try.pinned (OpenSpec.upto fnCaptureBeginAllSpec)

/-- 'laws.FnCapturePut', WHERE WHAT IT READS IS OF BULK AT MOST 1048576: true; the input reads as it did. -/
def fnCapturePutUptoRow : OpenClaim := { program := "ytmphkogaclfjmaa", sum := "5d46e0658f21f88d8a5a21e2ce8cee6319a48e4670b0151cadb5ee02b7223788", func := "loop.example/capturemonitor/laws.FnCapturePut", spec := "fnCapturePut", apart := false, narrowed := true }
def FnCapturePutUptoSaid : Prop := fnCapturePutUptoRow.holds Try.pinned (OpenSpec.upto fnCapturePutSpec)

/-- 'laws.FnCaptureBegin', WHERE WHAT IT READS IS OF BULK AT MOST 1048576: true; the input reads as it did. -/
def fnCaptureBeginUptoRow : OpenClaim := { program := "ytmphkogaclfjmaa", sum := "5d46e0658f21f88d8a5a21e2ce8cee6319a48e4670b0151cadb5ee02b7223788", func := "loop.example/capturemonitor/laws.FnCaptureBegin", spec := "fnCaptureBegin", apart := false, narrowed := true }
def FnCaptureBeginUptoSaid : Prop := fnCaptureBeginUptoRow.holds Try.pinned (OpenSpec.upto fnCaptureBeginSpec)

/-- 'laws.FnCaptureGet', WHERE WHAT IT READS IS OF BULK AT MOST 1048576: true; the input reads as it did. -/
def fnCaptureGetUptoRow : OpenClaim := { program := "ytmphkogaclfjmaa", sum := "5d46e0658f21f88d8a5a21e2ce8cee6319a48e4670b0151cadb5ee02b7223788", func := "loop.example/capturemonitor/laws.FnCaptureGet", spec := "fnCaptureGet", apart := false, narrowed := true }
def FnCaptureGetUptoSaid : Prop := fnCaptureGetUptoRow.holds Try.pinned (OpenSpec.upto fnCaptureGetSpec)

end Rows
end Go.Proofs.Ytmphkogaclfjmaa
