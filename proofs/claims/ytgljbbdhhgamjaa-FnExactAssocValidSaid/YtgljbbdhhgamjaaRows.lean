/-
  No cell of these rows narrows 'for every input' (looked for: loops, veiled, ifaces, maps, wideKeys, modest, calm, conditions, laid).
  DERIVED. THE GIVEN ROWS OF THIS SEAT. 8 by the template 'for every input the law returns true; each argument reads behind the call as it read before'; 0 by the template 'total and deterministic' (their statements: YtgljbbdhhgamjaaTotals.lean).
  GIVEN WITH THE SEED: the statements are not yours to turn. If you find one false, say at which input.
  Laid BY PROGRAM, IN A SANDBOX (cutbox-rows.mjs): the forced cells as the released guide's own fill.sh prints them over the translation 2c821418ac0d3f3a… (all of the seat's roots in one cut). By AI agents, Wed Nov 11 2026. No macro, syntax, notation, axiom, sorry.
-/
import Derived.Test.YtgljbbdhhgamjaaChecked
import GoSem.Claim
import GoSem.ClaimJoined
import GoSem.ClaimMapViews
import Derived.JoinedTies
import Derived.KernelRfl
namespace Go.Proofs.Ytgljbbdhhgamjaa
/- THE CELL 'sum', in the pinned program and in every row, IS THE sha256 OF THE DUMP (.gsa) THAT YtgljbbdhhgamjaaProg.lean LOADS. Nothing in Lean hashes anything: it is a label: what it is worth is what the hold of that sum in a sandbox is worth. -/
noncomputable def Try.pinned : Pinned := { name := "ytgljbbdhhgamjaa", sum := "2c821418ac0d3f3a67cb29be903338a356980a871b20501578d4b0a34f75bec4", checked := Try.checked }
namespace Rows
def none {H : Type} : Left H := { results := [], args := [] }

/-- 'laws.FnAsmNew': WHATEVER THE INPUT: true; the input reads as it did. -/
def fnAsmNewSpec : ChangeSpec := { name := "fnAsmNew", fn := fun _ => fun
  | [d] => { results := [.lit (.bool true)], args := [d] }
  | _ => none }
def fnAsmNewRow : OpenClaim := { program := "ytgljbbdhhgamjaa", sum := "2c821418ac0d3f3a67cb29be903338a356980a871b20501578d4b0a34f75bec4", func := "loop.example/capturemonitor/laws.FnAsmNew", spec := "fnAsmNew", apart := false }
def FnAsmNewSaid : Prop := fnAsmNewRow.holds Try.pinned (OpenSpec.ofChange fnAsmNewSpec)

/-- ITS FALSE NEIGHBOUR: 'it returns false'. Refute it at one input. -/
def fnAsmNewWrong : ChangeSpec := { name := "fnAsmNew", fn := fun _ => fun
  | [d] => { results := [.lit (.bool false)], args := [d] }
  | _ => none }
def FnAsmNewWrongFalsely : Prop := fnAsmNewRow.holds Try.pinned (OpenSpec.ofChange fnAsmNewWrong)

/-- 'laws.FnExactAsmRun': WHATEVER THE INPUT: true; the input reads as it did. -/
def fnExactAsmRunSpec : ChangeSpec := { name := "fnExactAsmRun", fn := fun _ => fun
  | [d1, d2] => { results := [.lit (.bool true)], args := [d1, d2] }
  | _ => none }
def fnExactAsmRunRow : OpenClaim := { program := "ytgljbbdhhgamjaa", sum := "2c821418ac0d3f3a67cb29be903338a356980a871b20501578d4b0a34f75bec4", func := "loop.example/capturemonitor/laws.FnExactAsmRun", spec := "fnExactAsmRun", apart := false }
def FnExactAsmRunSaid : Prop := fnExactAsmRunRow.holds Try.pinned (OpenSpec.ofChange fnExactAsmRunSpec)

/-- ITS FALSE NEIGHBOUR: 'it returns false'. Refute it at one input. -/
def fnExactAsmRunWrong : ChangeSpec := { name := "fnExactAsmRun", fn := fun _ => fun
  | [d1, d2] => { results := [.lit (.bool false)], args := [d1, d2] }
  | _ => none }
def FnExactAsmRunWrongFalsely : Prop := fnExactAsmRunRow.holds Try.pinned (OpenSpec.ofChange fnExactAsmRunWrong)

/-- 'laws.FnExactAsmAdd': WHATEVER THE INPUT: true; the input reads as it did. -/
def fnExactAsmAddSpec : ChangeSpec := { name := "fnExactAsmAdd", fn := fun _ => fun
  | [d1, d2] => { results := [.lit (.bool true)], args := [d1, d2] }
  | _ => none }
def fnExactAsmAddRow : OpenClaim := { program := "ytgljbbdhhgamjaa", sum := "2c821418ac0d3f3a67cb29be903338a356980a871b20501578d4b0a34f75bec4", func := "loop.example/capturemonitor/laws.FnExactAsmAdd", spec := "fnExactAsmAdd", apart := false }
def FnExactAsmAddSaid : Prop := fnExactAsmAddRow.holds Try.pinned (OpenSpec.ofChange fnExactAsmAddSpec)

/-- ITS FALSE NEIGHBOUR: 'it returns false'. Refute it at one input. -/
def fnExactAsmAddWrong : ChangeSpec := { name := "fnExactAsmAdd", fn := fun _ => fun
  | [d1, d2] => { results := [.lit (.bool false)], args := [d1, d2] }
  | _ => none }
def FnExactAsmAddWrongFalsely : Prop := fnExactAsmAddRow.holds Try.pinned (OpenSpec.ofChange fnExactAsmAddWrong)

/-- 'laws.FnExactAsmNew': WHATEVER THE INPUT: true; the input reads as it did. -/
def fnExactAsmNewSpec : ChangeSpec := { name := "fnExactAsmNew", fn := fun _ => fun
  | [d] => { results := [.lit (.bool true)], args := [d] }
  | _ => none }
def fnExactAsmNewRow : OpenClaim := { program := "ytgljbbdhhgamjaa", sum := "2c821418ac0d3f3a67cb29be903338a356980a871b20501578d4b0a34f75bec4", func := "loop.example/capturemonitor/laws.FnExactAsmNew", spec := "fnExactAsmNew", apart := false }
def FnExactAsmNewSaid : Prop := fnExactAsmNewRow.holds Try.pinned (OpenSpec.ofChange fnExactAsmNewSpec)

/-- ITS FALSE NEIGHBOUR: 'it returns false'. Refute it at one input. -/
def fnExactAsmNewWrong : ChangeSpec := { name := "fnExactAsmNew", fn := fun _ => fun
  | [d] => { results := [.lit (.bool false)], args := [d] }
  | _ => none }
def FnExactAsmNewWrongFalsely : Prop := fnExactAsmNewRow.holds Try.pinned (OpenSpec.ofChange fnExactAsmNewWrong)

/-- 'laws.FnExactAsmValid': WHATEVER THE INPUT: true; the input reads as it did. -/
def fnExactAsmValidSpec : ChangeSpec := { name := "fnExactAsmValid", fn := fun _ => fun
  | [d] => { results := [.lit (.bool true)], args := [d] }
  | _ => none }
def fnExactAsmValidRow : OpenClaim := { program := "ytgljbbdhhgamjaa", sum := "2c821418ac0d3f3a67cb29be903338a356980a871b20501578d4b0a34f75bec4", func := "loop.example/capturemonitor/laws.FnExactAsmValid", spec := "fnExactAsmValid", apart := false }
def FnExactAsmValidSaid : Prop := fnExactAsmValidRow.holds Try.pinned (OpenSpec.ofChange fnExactAsmValidSpec)

/-- ITS FALSE NEIGHBOUR: 'it returns false'. Refute it at one input. -/
def fnExactAsmValidWrong : ChangeSpec := { name := "fnExactAsmValid", fn := fun _ => fun
  | [d] => { results := [.lit (.bool false)], args := [d] }
  | _ => none }
def FnExactAsmValidWrongFalsely : Prop := fnExactAsmValidRow.holds Try.pinned (OpenSpec.ofChange fnExactAsmValidWrong)

/-- 'laws.FnExactSideValid': WHATEVER THE INPUT: true; the input reads as it did. -/
def fnExactSideValidSpec : ChangeSpec := { name := "fnExactSideValid", fn := fun _ => fun
  | [d] => { results := [.lit (.bool true)], args := [d] }
  | _ => none }
def fnExactSideValidRow : OpenClaim := { program := "ytgljbbdhhgamjaa", sum := "2c821418ac0d3f3a67cb29be903338a356980a871b20501578d4b0a34f75bec4", func := "loop.example/capturemonitor/laws.FnExactSideValid", spec := "fnExactSideValid", apart := false }
def FnExactSideValidSaid : Prop := fnExactSideValidRow.holds Try.pinned (OpenSpec.ofChange fnExactSideValidSpec)

/-- ITS FALSE NEIGHBOUR: 'it returns false'. Refute it at one input. -/
def fnExactSideValidWrong : ChangeSpec := { name := "fnExactSideValid", fn := fun _ => fun
  | [d] => { results := [.lit (.bool false)], args := [d] }
  | _ => none }
def FnExactSideValidWrongFalsely : Prop := fnExactSideValidRow.holds Try.pinned (OpenSpec.ofChange fnExactSideValidWrong)

/-- 'laws.FnExactAssocValid': WHATEVER THE INPUT: true; the input reads as it did. -/
def fnExactAssocValidSpec : ChangeSpec := { name := "fnExactAssocValid", fn := fun _ => fun
  | [d] => { results := [.lit (.bool true)], args := [d] }
  | _ => none }
def fnExactAssocValidRow : OpenClaim := { program := "ytgljbbdhhgamjaa", sum := "2c821418ac0d3f3a67cb29be903338a356980a871b20501578d4b0a34f75bec4", func := "loop.example/capturemonitor/laws.FnExactAssocValid", spec := "fnExactAssocValid", apart := false }
def FnExactAssocValidSaid : Prop := fnExactAssocValidRow.holds Try.pinned (OpenSpec.ofChange fnExactAssocValidSpec)

/-- ITS FALSE NEIGHBOUR: 'it returns false'. Refute it at one input. -/
def fnExactAssocValidWrong : ChangeSpec := { name := "fnExactAssocValid", fn := fun _ => fun
  | [d] => { results := [.lit (.bool false)], args := [d] }
  | _ => none }
def FnExactAssocValidWrongFalsely : Prop := fnExactAssocValidRow.holds Try.pinned (OpenSpec.ofChange fnExactAssocValidWrong)

/-- 'laws.FnExactSideKnown': WHATEVER THE INPUT: true; the input reads as it did. -/
def fnExactSideKnownSpec : ChangeSpec := { name := "fnExactSideKnown", fn := fun _ => fun
  | [d] => { results := [.lit (.bool true)], args := [d] }
  | _ => none }
def fnExactSideKnownRow : OpenClaim := { program := "ytgljbbdhhgamjaa", sum := "2c821418ac0d3f3a67cb29be903338a356980a871b20501578d4b0a34f75bec4", func := "loop.example/capturemonitor/laws.FnExactSideKnown", spec := "fnExactSideKnown", apart := false }
def FnExactSideKnownSaid : Prop := fnExactSideKnownRow.holds Try.pinned (OpenSpec.ofChange fnExactSideKnownSpec)

/-- ITS FALSE NEIGHBOUR: 'it returns false'. Refute it at one input. -/
def fnExactSideKnownWrong : ChangeSpec := { name := "fnExactSideKnown", fn := fun _ => fun
  | [d] => { results := [.lit (.bool false)], args := [d] }
  | _ => none }
def FnExactSideKnownWrongFalsely : Prop := fnExactSideKnownRow.holds Try.pinned (OpenSpec.ofChange fnExactSideKnownWrong)

/- THE SECOND FORM. 'bulk': how many values and letters a reading holds, each counted each time it is reached (what is shared counts as often as it is met; a slice's spare places count too). A statement '..UptoSaid' is the law's where the arguments, and the package variables that the reading takes, are together of bulk at most 1048576: NARROWER than '..Said'. Prove '..Said' where nothing that the law and all that it calls make is longer than what came in: it says more and counts as full. Else prove '..UptoSaid'. A law counts once. -/
mutual
def uptoBulk {H : Type} : DataW H → Nat
  | .lit (.string bytes) => bytes.length + 1
  | .lit _ => 1
  | .nil => 1
  | .ptr d => uptoBulk d + 1
  | .slice elems spare => uptoBulkAll elems + uptoBulkAll spare + 1
  | .agg parts => uptoBulkAll parts + 1
  | .iface _ d => uptoBulk d + 1
  | .map entries => uptoBulkEntries entries + 1
  | .held _ => 1
def uptoBulkAll {H : Type} : List (DataW H) → Nat
  | [] => 0
  | d :: r => uptoBulk d + uptoBulkAll r
def uptoBulkEntries {H : Type} : List (Lit × DataW H) → Nat
  | [] => 0
  | x :: r => uptoBulkEntry x + uptoBulkEntries r
def uptoBulkEntry {H : Type} : Lit × DataW H → Nat
  | (.string bytes, d) => bytes.length + uptoBulk d + 1
  | (_, d) => uptoBulk d + 1
 end
def uptoSmall : (H : Type) → List (DataW H) → Bool := fun _ ds => decide (uptoBulkAll ds ≤ 1048576)
def OpenSpec.upto (s : _root_.Go.ChangeSpec) : _root_.Go.OpenSpec := { _root_.Go.OpenSpec.ofChange s with cond := some uptoSmall }

/-- 'laws.FnAsmNew', WHERE WHAT IT READS IS OF BULK AT MOST 1048576: true; the input reads as it did. -/
def fnAsmNewUptoRow : OpenClaim := { program := "ytgljbbdhhgamjaa", sum := "2c821418ac0d3f3a67cb29be903338a356980a871b20501578d4b0a34f75bec4", func := "loop.example/capturemonitor/laws.FnAsmNew", spec := "fnAsmNew", apart := false, narrowed := true }
def FnAsmNewUptoSaid : Prop := fnAsmNewUptoRow.holds Try.pinned (OpenSpec.upto fnAsmNewSpec)

/-- 'laws.FnExactAsmRun', WHERE WHAT IT READS IS OF BULK AT MOST 1048576: true; the input reads as it did. -/
def fnExactAsmRunUptoRow : OpenClaim := { program := "ytgljbbdhhgamjaa", sum := "2c821418ac0d3f3a67cb29be903338a356980a871b20501578d4b0a34f75bec4", func := "loop.example/capturemonitor/laws.FnExactAsmRun", spec := "fnExactAsmRun", apart := false, narrowed := true }
def FnExactAsmRunUptoSaid : Prop := fnExactAsmRunUptoRow.holds Try.pinned (OpenSpec.upto fnExactAsmRunSpec)

/-- 'laws.FnExactAsmAdd', WHERE WHAT IT READS IS OF BULK AT MOST 1048576: true; the input reads as it did. -/
def fnExactAsmAddUptoRow : OpenClaim := { program := "ytgljbbdhhgamjaa", sum := "2c821418ac0d3f3a67cb29be903338a356980a871b20501578d4b0a34f75bec4", func := "loop.example/capturemonitor/laws.FnExactAsmAdd", spec := "fnExactAsmAdd", apart := false, narrowed := true }
def FnExactAsmAddUptoSaid : Prop := fnExactAsmAddUptoRow.holds Try.pinned (OpenSpec.upto fnExactAsmAddSpec)

/-- 'laws.FnExactAsmNew', WHERE WHAT IT READS IS OF BULK AT MOST 1048576: true; the input reads as it did. -/
def fnExactAsmNewUptoRow : OpenClaim := { program := "ytgljbbdhhgamjaa", sum := "2c821418ac0d3f3a67cb29be903338a356980a871b20501578d4b0a34f75bec4", func := "loop.example/capturemonitor/laws.FnExactAsmNew", spec := "fnExactAsmNew", apart := false, narrowed := true }
def FnExactAsmNewUptoSaid : Prop := fnExactAsmNewUptoRow.holds Try.pinned (OpenSpec.upto fnExactAsmNewSpec)

/-- 'laws.FnExactAsmValid', WHERE WHAT IT READS IS OF BULK AT MOST 1048576: true; the input reads as it did. -/
def fnExactAsmValidUptoRow : OpenClaim := { program := "ytgljbbdhhgamjaa", sum := "2c821418ac0d3f3a67cb29be903338a356980a871b20501578d4b0a34f75bec4", func := "loop.example/capturemonitor/laws.FnExactAsmValid", spec := "fnExactAsmValid", apart := false, narrowed := true }
def FnExactAsmValidUptoSaid : Prop := fnExactAsmValidUptoRow.holds Try.pinned (OpenSpec.upto fnExactAsmValidSpec)

/-- 'laws.FnExactSideValid', WHERE WHAT IT READS IS OF BULK AT MOST 1048576: true; the input reads as it did. -/
def fnExactSideValidUptoRow : OpenClaim := { program := "ytgljbbdhhgamjaa", sum := "2c821418ac0d3f3a67cb29be903338a356980a871b20501578d4b0a34f75bec4", func := "loop.example/capturemonitor/laws.FnExactSideValid", spec := "fnExactSideValid", apart := false, narrowed := true }
def FnExactSideValidUptoSaid : Prop := fnExactSideValidUptoRow.holds Try.pinned (OpenSpec.upto fnExactSideValidSpec)

/-- 'laws.FnExactAssocValid', WHERE WHAT IT READS IS OF BULK AT MOST 1048576: true; the input reads as it did. -/
def fnExactAssocValidUptoRow : OpenClaim := { program := "ytgljbbdhhgamjaa", sum := "2c821418ac0d3f3a67cb29be903338a356980a871b20501578d4b0a34f75bec4", func := "loop.example/capturemonitor/laws.FnExactAssocValid", spec := "fnExactAssocValid", apart := false, narrowed := true }
def FnExactAssocValidUptoSaid : Prop := fnExactAssocValidUptoRow.holds Try.pinned (OpenSpec.upto fnExactAssocValidSpec)

/-- 'laws.FnExactSideKnown', WHERE WHAT IT READS IS OF BULK AT MOST 1048576: true; the input reads as it did. -/
def fnExactSideKnownUptoRow : OpenClaim := { program := "ytgljbbdhhgamjaa", sum := "2c821418ac0d3f3a67cb29be903338a356980a871b20501578d4b0a34f75bec4", func := "loop.example/capturemonitor/laws.FnExactSideKnown", spec := "fnExactSideKnown", apart := false, narrowed := true }
def FnExactSideKnownUptoSaid : Prop := fnExactSideKnownUptoRow.holds Try.pinned (OpenSpec.upto fnExactSideKnownSpec)

end Rows
end Go.Proofs.Ytgljbbdhhgamjaa
