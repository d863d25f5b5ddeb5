/-
  No cell of these rows narrows 'for every input' (looked for: loops, veiled, ifaces, maps, wideKeys, modest, calm, conditions, laid).
  DERIVED. THE GIVEN ROWS OF THIS SEAT. 7 by the template 'for every input the law returns true; each argument reads behind the call as it read before'; 0 by the template 'total and deterministic' (their statements: YtlemdagiamnphaaTotals.lean).
  GIVEN WITH THE SEED: the statements are not yours to turn. If you find one false, say at which input.
  Laid BY PROGRAM, IN A SANDBOX (cutbox-rows.mjs): the forced cells as the released guide's own fill.sh prints them over the translation e8f4f51286ca6d59… (all of the seat's roots in one cut). By AI agents, Wed Nov 11 2026. No macro, syntax, notation, axiom, sorry.
-/
import Derived.Test.YtlemdagiamnphaaChecked
import GoSem.Claim
import GoSem.ClaimJoined
import GoSem.ClaimMapViews
import Derived.JoinedTies
import Derived.KernelRfl
namespace Go.Proofs.Ytlemdagiamnphaa
/- THE CELL 'sum', in the pinned program and in every row, IS THE sha256 OF THE DUMP (.gsa) THAT YtlemdagiamnphaaProg.lean LOADS. Nothing in Lean hashes anything: it is a label: what it is worth is what the hold of that sum in a sandbox is worth. -/
noncomputable def Try.pinned : Pinned := { name := "ytlemdagiamnphaa", sum := "e8f4f51286ca6d5922fbdd828d32d25ef2c08e0e3d9fca4575828e40fc6e319b", checked := Try.checked }
namespace Rows
def none {H : Type} : Left H := { results := [], args := [] }

/-- 'laws.FnPacketGet': WHATEVER THE INPUT: true; the input reads as it did. -/
def fnPacketGetSpec : ChangeSpec := { name := "fnPacketGet", fn := fun _ => fun
  | [d] => { results := [.lit (.bool true)], args := [d] }
  | _ => none }
def fnPacketGetRow : OpenClaim := { program := "ytlemdagiamnphaa", sum := "e8f4f51286ca6d5922fbdd828d32d25ef2c08e0e3d9fca4575828e40fc6e319b", func := "loop.example/capturemonitor/laws.FnPacketGet", spec := "fnPacketGet", apart := false }
def FnPacketGetSaid : Prop := fnPacketGetRow.holds Try.pinned (OpenSpec.ofChange fnPacketGetSpec)

/-- ITS FALSE NEIGHBOUR: 'it returns false'. Refute it at one input. -/
def fnPacketGetWrong : ChangeSpec := { name := "fnPacketGet", fn := fun _ => fun
  | [d] => { results := [.lit (.bool false)], args := [d] }
  | _ => none }
def FnPacketGetWrongFalsely : Prop := fnPacketGetRow.holds Try.pinned (OpenSpec.ofChange fnPacketGetWrong)

/-- 'laws.FnExactPacketGet': WHATEVER THE INPUT: true; the input reads as it did. -/
def fnExactPacketGetSpec : ChangeSpec := { name := "fnExactPacketGet", fn := fun _ => fun
  | [d] => { results := [.lit (.bool true)], args := [d] }
  | _ => none }
def fnExactPacketGetRow : OpenClaim := { program := "ytlemdagiamnphaa", sum := "e8f4f51286ca6d5922fbdd828d32d25ef2c08e0e3d9fca4575828e40fc6e319b", func := "loop.example/capturemonitor/laws.FnExactPacketGet", spec := "fnExactPacketGet", apart := false }
def FnExactPacketGetSaid : Prop := fnExactPacketGetRow.holds Try.pinned (OpenSpec.ofChange fnExactPacketGetSpec)

/-- ITS FALSE NEIGHBOUR: 'it returns false'. Refute it at one input. -/
def fnExactPacketGetWrong : ChangeSpec := { name := "fnExactPacketGet", fn := fun _ => fun
  | [d] => { results := [.lit (.bool false)], args := [d] }
  | _ => none }
def FnExactPacketGetWrongFalsely : Prop := fnExactPacketGetRow.holds Try.pinned (OpenSpec.ofChange fnExactPacketGetWrong)

/-- 'laws.FnPacketPut': WHATEVER THE INPUT: true; the input reads as it did. -/
def fnPacketPutSpec : ChangeSpec := { name := "fnPacketPut", fn := fun _ => fun
  | [d] => { results := [.lit (.bool true)], args := [d] }
  | _ => none }
def fnPacketPutRow : OpenClaim := { program := "ytlemdagiamnphaa", sum := "e8f4f51286ca6d5922fbdd828d32d25ef2c08e0e3d9fca4575828e40fc6e319b", func := "loop.example/capturemonitor/laws.FnPacketPut", spec := "fnPacketPut", apart := false }
def FnPacketPutSaid : Prop := fnPacketPutRow.holds Try.pinned (OpenSpec.ofChange fnPacketPutSpec)

/-- ITS FALSE NEIGHBOUR: 'it returns false'. Refute it at one input. -/
def fnPacketPutWrong : ChangeSpec := { name := "fnPacketPut", fn := fun _ => fun
  | [d] => { results := [.lit (.bool false)], args := [d] }
  | _ => none }
def FnPacketPutWrongFalsely : Prop := fnPacketPutRow.holds Try.pinned (OpenSpec.ofChange fnPacketPutWrong)

/-- 'laws.FnPacketByte': WHATEVER THE INPUT: true; the input reads as it did. -/
def fnPacketByteSpec : ChangeSpec := { name := "fnPacketByte", fn := fun _ => fun
  | [d1, d2] => { results := [.lit (.bool true)], args := [d1, d2] }
  | _ => none }
def fnPacketByteRow : OpenClaim := { program := "ytlemdagiamnphaa", sum := "e8f4f51286ca6d5922fbdd828d32d25ef2c08e0e3d9fca4575828e40fc6e319b", func := "loop.example/capturemonitor/laws.FnPacketByte", spec := "fnPacketByte", apart := false }
def FnPacketByteSaid : Prop := fnPacketByteRow.holds Try.pinned (OpenSpec.ofChange fnPacketByteSpec)

/-- ITS FALSE NEIGHBOUR: 'it returns false'. Refute it at one input. -/
def fnPacketByteWrong : ChangeSpec := { name := "fnPacketByte", fn := fun _ => fun
  | [d1, d2] => { results := [.lit (.bool false)], args := [d1, d2] }
  | _ => none }
def FnPacketByteWrongFalsely : Prop := fnPacketByteRow.holds Try.pinned (OpenSpec.ofChange fnPacketByteWrong)

/-- 'laws.FnPacketCut': WHATEVER THE INPUT: true; the input reads as it did. -/
def fnPacketCutSpec : ChangeSpec := { name := "fnPacketCut", fn := fun _ => fun
  | [d] => { results := [.lit (.bool true)], args := [d] }
  | _ => none }
def fnPacketCutRow : OpenClaim := { program := "ytlemdagiamnphaa", sum := "e8f4f51286ca6d5922fbdd828d32d25ef2c08e0e3d9fca4575828e40fc6e319b", func := "loop.example/capturemonitor/laws.FnPacketCut", spec := "fnPacketCut", apart := false }
def FnPacketCutSaid : Prop := fnPacketCutRow.holds Try.pinned (OpenSpec.ofChange fnPacketCutSpec)

/-- ITS FALSE NEIGHBOUR: 'it returns false'. Refute it at one input. -/
def fnPacketCutWrong : ChangeSpec := { name := "fnPacketCut", fn := fun _ => fun
  | [d] => { results := [.lit (.bool false)], args := [d] }
  | _ => none }
def FnPacketCutWrongFalsely : Prop := fnPacketCutRow.holds Try.pinned (OpenSpec.ofChange fnPacketCutWrong)

/-- 'laws.FnPacketShort': WHATEVER THE INPUT: true; the input reads as it did. -/
def fnPacketShortSpec : ChangeSpec := { name := "fnPacketShort", fn := fun _ => fun
  | [d] => { results := [.lit (.bool true)], args := [d] }
  | _ => none }
def fnPacketShortRow : OpenClaim := { program := "ytlemdagiamnphaa", sum := "e8f4f51286ca6d5922fbdd828d32d25ef2c08e0e3d9fca4575828e40fc6e319b", func := "loop.example/capturemonitor/laws.FnPacketShort", spec := "fnPacketShort", apart := false }
def FnPacketShortSaid : Prop := fnPacketShortRow.holds Try.pinned (OpenSpec.ofChange fnPacketShortSpec)

/-- ITS FALSE NEIGHBOUR: 'it returns false'. Refute it at one input. -/
def fnPacketShortWrong : ChangeSpec := { name := "fnPacketShort", fn := fun _ => fun
  | [d] => { results := [.lit (.bool false)], args := [d] }
  | _ => none }
def FnPacketShortWrongFalsely : Prop := fnPacketShortRow.holds Try.pinned (OpenSpec.ofChange fnPacketShortWrong)

/-- 'laws.FnPacketSwap': WHATEVER THE INPUT: true; the input reads as it did. -/
def fnPacketSwapSpec : ChangeSpec := { name := "fnPacketSwap", fn := fun _ => fun
  | [d1, d2] => { results := [.lit (.bool true)], args := [d1, d2] }
  | _ => none }
def fnPacketSwapRow : OpenClaim := { program := "ytlemdagiamnphaa", sum := "e8f4f51286ca6d5922fbdd828d32d25ef2c08e0e3d9fca4575828e40fc6e319b", func := "loop.example/capturemonitor/laws.FnPacketSwap", spec := "fnPacketSwap", apart := false }
def FnPacketSwapSaid : Prop := fnPacketSwapRow.holds Try.pinned (OpenSpec.ofChange fnPacketSwapSpec)

/-- ITS FALSE NEIGHBOUR: 'it returns false'. Refute it at one input. -/
def fnPacketSwapWrong : ChangeSpec := { name := "fnPacketSwap", fn := fun _ => fun
  | [d1, d2] => { results := [.lit (.bool false)], args := [d1, d2] }
  | _ => none }
def FnPacketSwapWrongFalsely : Prop := fnPacketSwapRow.holds Try.pinned (OpenSpec.ofChange fnPacketSwapWrong)

/- THE SECOND FORM. 'bulk': how many values and letters a reading holds, each counted each time it is reached (what is shared counts as often as it is met; a slice's spare places count too). A statement '..UptoSaid' is the law's where the arguments, and the package variables that the reading takes, are together of bulk at most 1048576: NARROWER than '..Said'. Prove '..Said' where nothing that the law and all that it calls make is longer than what came in: it says more and counts as full. Else prove '..UptoSaid'. A law counts once. -/
mutual
def uptoBulk {H : Type} : DataW H → Nat
  | .lit (.string bytes) => bytes.length + 1
  | .lit _ => 1
  | .nil => 1
  | .ptr d => uptoBulk d + 1
  | .slice elems spare => uptoBulkAll elems + uptoBulkAll spare + 1
  | .agg parts => uptoBulkAll parts + 1
  | .iface _ d => uptoBulk d + 1
  | .map entries => uptoBulkEntries entries + 1
  | .held _ => 1
def uptoBulkAll {H : Type} : List (DataW H) → Nat
  | [] => 0
  | d :: r => uptoBulk d + uptoBulkAll r
def uptoBulkEntries {H : Type} : List (Lit × DataW H) → Nat
  | [] => 0
  | x :: r => uptoBulkEntry x + uptoBulkEntries r
def uptoBulkEntry {H : Type} : Lit × DataW H → Nat
  | (.string bytes, d) => bytes.length + uptoBulk d + 1
  | (_, d) => uptoBulk d + 1
 end
def uptoSmall : (H : Type) → List (DataW H) → Bool := fun _ ds => decide (uptoBulkAll ds ≤ 1048576)
def OpenSpec.upto (s : _root_.Go.ChangeSpec) : _root_.Go.OpenSpec := { _root_.Go.OpenSpec.ofChange s with cond := some uptoSmall }

/-- 'laws.FnPacketGet', WHERE WHAT IT READS IS OF BULK AT MOST 1048576: true; the input reads as it did. -/
def fnPacketGetUptoRow : OpenClaim := { program := "ytlemdagiamnphaa", sum := "e8f4f51286ca6d5922fbdd828d32d25ef2c08e0e3d9fca4575828e40fc6e319b", func := "loop.example/capturemonitor/laws.FnPacketGet", spec := "fnPacketGet", apart := false, narrowed := true }
def FnPacketGetUptoSaid : Prop := fnPacketGetUptoRow.holds Try.pinned (OpenSpec.upto fnPacketGetSpec)

/-- 'laws.FnExactPacketGet', WHERE WHAT IT READS IS OF BULK AT MOST 1048576: true; the input reads as it did. -/
def fnExactPacketGetUptoRow : OpenClaim := { program := "ytlemdagiamnphaa", sum := "e8f4f51286ca6d5922fbdd828d32d25ef2c08e0e3d9fca4575828e40fc6e319b", func := "loop.example/capturemonitor/laws.FnExactPacketGet", spec := "fnExactPacketGet", apart := false, narrowed := true }
def FnExactPacketGetUptoSaid : Prop := fnExactPacketGetUptoRow.holds Try.pinned (OpenSpec.upto fnExactPacketGetSpec)

/-- 'laws.FnPacketPut', WHERE WHAT IT READS IS OF BULK AT MOST 1048576: true; the input reads as it did. -/
def fnPacketPutUptoRow : OpenClaim := { program := "ytlemdagiamnphaa", sum := "e8f4f51286ca6d5922fbdd828d32d25ef2c08e0e3d9fca4575828e40fc6e319b", func := "loop.example/capturemonitor/laws.FnPacketPut", spec := "fnPacketPut", apart := false, narrowed := true }
def FnPacketPutUptoSaid : Prop := fnPacketPutUptoRow.holds Try.pinned (OpenSpec.upto fnPacketPutSpec)

/-- 'laws.FnPacketByte', WHERE WHAT IT READS IS OF BULK AT MOST 1048576: true; the input reads as it did. -/
def fnPacketByteUptoRow : OpenClaim := { program := "ytlemdagiamnphaa", sum := "e8f4f51286ca6d5922fbdd828d32d25ef2c08e0e3d9fca4575828e40fc6e319b", func := "loop.example/capturemonitor/laws.FnPacketByte", spec := "fnPacketByte", apart := false, narrowed := true }
def FnPacketByteUptoSaid : Prop := fnPacketByteUptoRow.holds Try.pinned (OpenSpec.upto fnPacketByteSpec)

/-- 'laws.FnPacketCut', WHERE WHAT IT READS IS OF BULK AT MOST 1048576: true; the input reads as it did. -/
def fnPacketCutUptoRow : OpenClaim := { program := "ytlemdagiamnphaa", sum := "e8f4f51286ca6d5922fbdd828d32d25ef2c08e0e3d9fca4575828e40fc6e319b", func := "loop.example/capturemonitor/laws.FnPacketCut", spec := "fnPacketCut", apart := false, narrowed := true }
def FnPacketCutUptoSaid : Prop := fnPacketCutUptoRow.holds Try.pinned (OpenSpec.upto fnPacketCutSpec)

/-- 'laws.FnPacketShort', WHERE WHAT IT READS IS OF BULK AT MOST 1048576: true; the input reads as it did. -/
def fnPacketShortUptoRow : OpenClaim := { program := "ytlemdagiamnphaa", sum := "e8f4f51286ca6d5922fbdd828d32d25ef2c08e0e3d9fca4575828e40fc6e319b", func := "loop.example/capturemonitor/laws.FnPacketShort", spec := "fnPacketShort", apart := false, narrowed := true }
def FnPacketShortUptoSaid : Prop := fnPacketShortUptoRow.holds Try.pinned (OpenSpec.upto fnPacketShortSpec)

/-- 'laws.FnPacketSwap', WHERE WHAT IT READS IS OF BULK AT MOST 1048576: true; the input reads as it did. -/
def fnPacketSwapUptoRow : OpenClaim := { program := "ytlemdagiamnphaa", sum := "e8f4f51286ca6d5922fbdd828d32d25ef2c08e0e3d9fca4575828e40fc6e319b", func := "loop.example/capturemonitor/laws.FnPacketSwap", spec := "fnPacketSwap", apart := false, narrowed := true }
def FnPacketSwapUptoSaid : Prop := fnPacketSwapUptoRow.holds Try.pinned (OpenSpec.upto fnPacketSwapSpec)

end Rows
end Go.Proofs.Ytlemdagiamnphaa
