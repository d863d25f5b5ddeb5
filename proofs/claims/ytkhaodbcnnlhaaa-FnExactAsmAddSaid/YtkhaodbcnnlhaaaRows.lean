/-
  No cell of these rows narrows 'for every input' (looked for: loops, veiled, ifaces, maps, wideKeys, modest, calm, conditions, laid).
  DERIVED. THE GIVEN ROWS OF THIS SEAT. 3 by the template 'for every input the law returns true; each argument reads behind the call as it read before'; 0 by the template 'total and deterministic' (their statements: YtkhaodbcnnlhaaaTotals.lean).
  GIVEN WITH THE SEED: the statements are not yours to turn. If you find one false, say at which input.
  Laid BY PROGRAM, IN A SANDBOX (cutbox-rows.mjs): the forced cells as the released guide's own fill.sh prints them over the translation ba0cdd171c44e212… (all of the seat's roots in one cut). By AI agents, Wed Nov 11 2026. No macro, syntax, notation, axiom, sorry.
-/
import Derived.Test.YtkhaodbcnnlhaaaChecked
import GoSem.Claim
import GoSem.ClaimJoined
import GoSem.ClaimMapViews
import Derived.JoinedTies
import Derived.KernelRfl
namespace Go.Proofs.Ytkhaodbcnnlhaaa
/- THE CELL 'sum', in the pinned program and in every row, IS THE sha256 OF THE DUMP (.gsa) THAT YtkhaodbcnnlhaaaProg.lean LOADS. Nothing in Lean hashes anything: it is a label: what it is worth is what the hold of that sum in a sandbox is worth. -/
noncomputable def Try.pinned : Pinned := { name := "ytkhaodbcnnlhaaa", sum := "ba0cdd171c44e212ad8995b1a75f1358babf40858471242a4779efe3dff587c7", checked := Try.checked }
namespace Rows
def none {H : Type} : Left H := { results := [], args := [] }

/-- 'laws.FnExactAsmRun': WHATEVER THE INPUT: true; the input reads as it did. -/
def fnExactAsmRunSpec : ChangeSpec := { name := "fnExactAsmRun", fn := fun _ => fun
  | [d1, d2] => { results := [.lit (.bool true)], args := [d1, d2] }
  | _ => none }
def fnExactAsmRunRow : OpenClaim := { program := "ytkhaodbcnnlhaaa", sum := "ba0cdd171c44e212ad8995b1a75f1358babf40858471242a4779efe3dff587c7", func := "loop.example/capturemonitor/laws.FnExactAsmRun", spec := "fnExactAsmRun", apart := false }
def FnExactAsmRunSaid : Prop := fnExactAsmRunRow.holds Try.pinned (OpenSpec.ofChange fnExactAsmRunSpec)

/-- ITS FALSE NEIGHBOUR: 'it returns false'. Refute it at one input. -/
def fnExactAsmRunWrong : ChangeSpec := { name := "fnExactAsmRun", fn := fun _ => fun
  | [d1, d2] => { results := [.lit (.bool false)], args := [d1, d2] }
  | _ => none }
def FnExactAsmRunWrongFalsely : Prop := fnExactAsmRunRow.holds Try.pinned (OpenSpec.ofChange fnExactAsmRunWrong)

/-- 'laws.FnExactAsmAdd': WHATEVER THE INPUT: true; the input reads as it did. -/
def fnExactAsmAddSpec : ChangeSpec := { name := "fnExactAsmAdd", fn := fun _ => fun
  | [d1, d2] => { results := [.lit (.bool true)], args := [d1, d2] }
  | _ => none }
def fnExactAsmAddRow : OpenClaim := { program := "ytkhaodbcnnlhaaa", sum := "ba0cdd171c44e212ad8995b1a75f1358babf40858471242a4779efe3dff587c7", func := "loop.example/capturemonitor/laws.FnExactAsmAdd", spec := "fnExactAsmAdd", apart := false }
def FnExactAsmAddSaid : Prop := fnExactAsmAddRow.holds Try.pinned (OpenSpec.ofChange fnExactAsmAddSpec)

/-- ITS FALSE NEIGHBOUR: 'it returns false'. Refute it at one input. -/
def fnExactAsmAddWrong : ChangeSpec := { name := "fnExactAsmAdd", fn := fun _ => fun
  | [d1, d2] => { results := [.lit (.bool false)], args := [d1, d2] }
  | _ => none }
def FnExactAsmAddWrongFalsely : Prop := fnExactAsmAddRow.holds Try.pinned (OpenSpec.ofChange fnExactAsmAddWrong)

/-- 'laws.FnExactSideKnown': WHATEVER THE INPUT: true; the input reads as it did. -/
def fnExactSideKnownSpec : ChangeSpec := { name := "fnExactSideKnown", fn := fun _ => fun
  | [d] => { results := [.lit (.bool true)], args := [d] }
  | _ => none }
def fnExactSideKnownRow : OpenClaim := { program := "ytkhaodbcnnlhaaa", sum := "ba0cdd171c44e212ad8995b1a75f1358babf40858471242a4779efe3dff587c7", func := "loop.example/capturemonitor/laws.FnExactSideKnown", spec := "fnExactSideKnown", apart := false }
def FnExactSideKnownSaid : Prop := fnExactSideKnownRow.holds Try.pinned (OpenSpec.ofChange fnExactSideKnownSpec)

/-- ITS FALSE NEIGHBOUR: 'it returns false'. Refute it at one input. -/
def fnExactSideKnownWrong : ChangeSpec := { name := "fnExactSideKnown", fn := fun _ => fun
  | [d] => { results := [.lit (.bool false)], args := [d] }
  | _ => none }
def FnExactSideKnownWrongFalsely : Prop := fnExactSideKnownRow.holds Try.pinned (OpenSpec.ofChange fnExactSideKnownWrong)

/- THE SECOND FORM. 'bulk': how many values and letters a reading holds, each counted each time it is reached (what is shared counts as often as it is met; a slice's spare places count too). A statement '..UptoSaid' is the law's where the arguments, and the package variables that the reading takes, are together of bulk at most 1048576: NARROWER than '..Said'. Prove '..Said' where nothing that the law and all that it calls make is longer than what came in: it says more and counts as full. Else prove '..UptoSaid'. A law counts once. -/
mutual
def uptoBulk {H : Type} : DataW H → Nat
  | .lit (.string bytes) => bytes.length + 1
  | .lit _ => 1
  | .nil => 1
  | .ptr d => uptoBulk d + 1
  | .slice elems spare => uptoBulkAll elems + uptoBulkAll spare + 1
  | .agg parts => uptoBulkAll parts + 1
  | .iface _ d => uptoBulk d + 1
  | .map entries => uptoBulkEntries entries + 1
  | .held _ => 1
def uptoBulkAll {H : Type} : List (DataW H) → Nat
  | [] => 0
  | d :: r => uptoBulk d + uptoBulkAll r
def uptoBulkEntries {H : Type} : List (Lit × DataW H) → Nat
  | [] => 0
  | x :: r => uptoBulkEntry x + uptoBulkEntries r
def uptoBulkEntry {H : Type} : Lit × DataW H → Nat
  | (.string bytes, d) => bytes.length + uptoBulk d + 1
  | (_, d) => uptoBulk d + 1
 end
def uptoSmall : (H : Type) → List (DataW H) → Bool := fun _ ds => decide (uptoBulkAll ds ≤ 1048576)
def OpenSpec.upto (s : _root_.Go.ChangeSpec) : _root_.Go.OpenSpec := { _root_.Go.OpenSpec.ofChange s with cond := some uptoSmall }

/-- 'laws.FnExactAsmRun', WHERE WHAT IT READS IS OF BULK AT MOST 1048576: true; the input reads as it did. -/
def fnExactAsmRunUptoRow : OpenClaim := { program := "ytkhaodbcnnlhaaa", sum := "ba0cdd171c44e212ad8995b1a75f1358babf40858471242a4779efe3dff587c7", func := "loop.example/capturemonitor/laws.FnExactAsmRun", spec := "fnExactAsmRun", apart := false, narrowed := true }
def FnExactAsmRunUptoSaid : Prop := fnExactAsmRunUptoRow.holds Try.pinned (OpenSpec.upto fnExactAsmRunSpec)

/-- 'laws.FnExactAsmAdd', WHERE WHAT IT READS IS OF BULK AT MOST 1048576: true; the input reads as it did. -/
def fnExactAsmAddUptoRow : OpenClaim := { program := "ytkhaodbcnnlhaaa", sum := "ba0cdd171c44e212ad8995b1a75f1358babf40858471242a4779efe3dff587c7", func := "loop.example/capturemonitor/laws.FnExactAsmAdd", spec := "fnExactAsmAdd", apart := false, narrowed := true }
def FnExactAsmAddUptoSaid : Prop := fnExactAsmAddUptoRow.holds Try.pinned (OpenSpec.upto fnExactAsmAddSpec)

/-- 'laws.FnExactSideKnown', WHERE WHAT IT READS IS OF BULK AT MOST 1048576: true; the input reads as it did. -/
def fnExactSideKnownUptoRow : OpenClaim := { program := "ytkhaodbcnnlhaaa", sum := "ba0cdd171c44e212ad8995b1a75f1358babf40858471242a4779efe3dff587c7", func := "loop.example/capturemonitor/laws.FnExactSideKnown", spec := "fnExactSideKnown", apart := false, narrowed := true }
def FnExactSideKnownUptoSaid : Prop := fnExactSideKnownUptoRow.holds Try.pinned (OpenSpec.upto fnExactSideKnownSpec)

end Rows
end Go.Proofs.Ytkhaodbcnnlhaaa
