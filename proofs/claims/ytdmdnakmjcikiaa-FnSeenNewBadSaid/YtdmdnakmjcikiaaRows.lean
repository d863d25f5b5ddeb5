/-
  No cell of these rows narrows 'for every input' (looked for: loops, veiled, ifaces, maps, wideKeys, modest, calm, conditions, laid).
  DERIVED. THE GIVEN ROWS OF THIS SEAT. 6 by the template 'for every input the law returns true; each argument reads behind the call as it read before'; 0 by the template 'total and deterministic' (their statements: YtdmdnakmjcikiaaTotals.lean).
  GIVEN WITH THE SEED: the statements are not yours to turn. If you find one false, say at which input.
  Laid BY PROGRAM, IN A SANDBOX (cutbox-rows.mjs): the forced cells as the released guide's own fill.sh prints them over the translation 0d1f1b4c836b8ae0… (all of the seat's roots in one cut). By AI agents, Wed Nov 11 2026. No macro, syntax, notation, axiom, sorry.
-/
import Derived.Test.YtdmdnakmjcikiaaChecked
import GoSem.Claim
import GoSem.ClaimJoined
import GoSem.ClaimMapViews
import Derived.JoinedTies
import Derived.KernelRfl
namespace Go.Proofs.Ytdmdnakmjcikiaa
/- THE CELL 'sum', in the pinned program and in every row, IS THE sha256 OF THE DUMP (.gsa) THAT YtdmdnakmjcikiaaProg.lean LOADS. Nothing in Lean hashes anything: it is a label: what it is worth is what the hold of that sum in a sandbox is worth. -/
noncomputable def Try.pinned : Pinned := { name := "ytdmdnakmjcikiaa", sum := "0d1f1b4c836b8ae053269b8de42e512afc84bd03bba83a62a279e3e732f70fc8", checked := Try.checked }
namespace Rows
def none {H : Type} : Left H := { results := [], args := [] }

/-- 'laws.FnExactRuleName': WHATEVER THE INPUT: true; the input reads as it did. -/
def fnExactRuleNameSpec : ChangeSpec := { name := "fnExactRuleName", fn := fun _ => fun
  | [d] => { results := [.lit (.bool true)], args := [d] }
  | _ => none }
def fnExactRuleNameRow : OpenClaim := { program := "ytdmdnakmjcikiaa", sum := "0d1f1b4c836b8ae053269b8de42e512afc84bd03bba83a62a279e3e732f70fc8", func := "loop.example/capturemonitor/laws.FnExactRuleName", spec := "fnExactRuleName", apart := false }
def FnExactRuleNameSaid : Prop := fnExactRuleNameRow.holds Try.pinned (OpenSpec.ofChange fnExactRuleNameSpec)

/-- ITS FALSE NEIGHBOUR: 'it returns false'. Refute it at one input. -/
def fnExactRuleNameWrong : ChangeSpec := { name := "fnExactRuleName", fn := fun _ => fun
  | [d] => { results := [.lit (.bool false)], args := [d] }
  | _ => none }
def FnExactRuleNameWrongFalsely : Prop := fnExactRuleNameRow.holds Try.pinned (OpenSpec.ofChange fnExactRuleNameWrong)

/-- 'laws.FnRuleName': WHATEVER THE INPUT: true; the input reads as it did. -/
def fnRuleNameSpec : ChangeSpec := { name := "fnRuleName", fn := fun _ => fun
  | [d] => { results := [.lit (.bool true)], args := [d] }
  | _ => none }
def fnRuleNameRow : OpenClaim := { program := "ytdmdnakmjcikiaa", sum := "0d1f1b4c836b8ae053269b8de42e512afc84bd03bba83a62a279e3e732f70fc8", func := "loop.example/capturemonitor/laws.FnRuleName", spec := "fnRuleName", apart := false }
def FnRuleNameSaid : Prop := fnRuleNameRow.holds Try.pinned (OpenSpec.ofChange fnRuleNameSpec)

/-- ITS FALSE NEIGHBOUR: 'it returns false'. Refute it at one input. -/
def fnRuleNameWrong : ChangeSpec := { name := "fnRuleName", fn := fun _ => fun
  | [d] => { results := [.lit (.bool false)], args := [d] }
  | _ => none }
def FnRuleNameWrongFalsely : Prop := fnRuleNameRow.holds Try.pinned (OpenSpec.ofChange fnRuleNameWrong)

/-- 'laws.FnAsmNewBad': WHATEVER THE INPUT: true; the input reads as it did. -/
def fnAsmNewBadSpec : ChangeSpec := { name := "fnAsmNewBad", fn := fun _ => fun
  | [d] => { results := [.lit (.bool true)], args := [d] }
  | _ => none }
def fnAsmNewBadRow : OpenClaim := { program := "ytdmdnakmjcikiaa", sum := "0d1f1b4c836b8ae053269b8de42e512afc84bd03bba83a62a279e3e732f70fc8", func := "loop.example/capturemonitor/laws.FnAsmNewBad", spec := "fnAsmNewBad", apart := false }
def FnAsmNewBadSaid : Prop := fnAsmNewBadRow.holds Try.pinned (OpenSpec.ofChange fnAsmNewBadSpec)

/-- ITS FALSE NEIGHBOUR: 'it returns false'. Refute it at one input. -/
def fnAsmNewBadWrong : ChangeSpec := { name := "fnAsmNewBad", fn := fun _ => fun
  | [d] => { results := [.lit (.bool false)], args := [d] }
  | _ => none }
def FnAsmNewBadWrongFalsely : Prop := fnAsmNewBadRow.holds Try.pinned (OpenSpec.ofChange fnAsmNewBadWrong)

/-- 'laws.FnExactSeenValid': WHATEVER THE INPUT: true; the input reads as it did. -/
def fnExactSeenValidSpec : ChangeSpec := { name := "fnExactSeenValid", fn := fun _ => fun
  | [d] => { results := [.lit (.bool true)], args := [d] }
  | _ => none }
def fnExactSeenValidRow : OpenClaim := { program := "ytdmdnakmjcikiaa", sum := "0d1f1b4c836b8ae053269b8de42e512afc84bd03bba83a62a279e3e732f70fc8", func := "loop.example/capturemonitor/laws.FnExactSeenValid", spec := "fnExactSeenValid", apart := false }
def FnExactSeenValidSaid : Prop := fnExactSeenValidRow.holds Try.pinned (OpenSpec.ofChange fnExactSeenValidSpec)

/-- ITS FALSE NEIGHBOUR: 'it returns false'. Refute it at one input. -/
def fnExactSeenValidWrong : ChangeSpec := { name := "fnExactSeenValid", fn := fun _ => fun
  | [d] => { results := [.lit (.bool false)], args := [d] }
  | _ => none }
def FnExactSeenValidWrongFalsely : Prop := fnExactSeenValidRow.holds Try.pinned (OpenSpec.ofChange fnExactSeenValidWrong)

/-- 'laws.FnExactSeenNew': WHATEVER THE INPUT: true; the input reads as it did. -/
def fnExactSeenNewSpec : ChangeSpec := { name := "fnExactSeenNew", fn := fun _ => fun
  | [d] => { results := [.lit (.bool true)], args := [d] }
  | _ => none }
def fnExactSeenNewRow : OpenClaim := { program := "ytdmdnakmjcikiaa", sum := "0d1f1b4c836b8ae053269b8de42e512afc84bd03bba83a62a279e3e732f70fc8", func := "loop.example/capturemonitor/laws.FnExactSeenNew", spec := "fnExactSeenNew", apart := false }
def FnExactSeenNewSaid : Prop := fnExactSeenNewRow.holds Try.pinned (OpenSpec.ofChange fnExactSeenNewSpec)

/-- ITS FALSE NEIGHBOUR: 'it returns false'. Refute it at one input. -/
def fnExactSeenNewWrong : ChangeSpec := { name := "fnExactSeenNew", fn := fun _ => fun
  | [d] => { results := [.lit (.bool false)], args := [d] }
  | _ => none }
def FnExactSeenNewWrongFalsely : Prop := fnExactSeenNewRow.holds Try.pinned (OpenSpec.ofChange fnExactSeenNewWrong)

/-- 'laws.FnSeenNewBad': WHATEVER THE INPUT: true; the input reads as it did. -/
def fnSeenNewBadSpec : ChangeSpec := { name := "fnSeenNewBad", fn := fun _ => fun
  | [d] => { results := [.lit (.bool true)], args := [d] }
  | _ => none }
def fnSeenNewBadRow : OpenClaim := { program := "ytdmdnakmjcikiaa", sum := "0d1f1b4c836b8ae053269b8de42e512afc84bd03bba83a62a279e3e732f70fc8", func := "loop.example/capturemonitor/laws.FnSeenNewBad", spec := "fnSeenNewBad", apart := false }
def FnSeenNewBadSaid : Prop := fnSeenNewBadRow.holds Try.pinned (OpenSpec.ofChange fnSeenNewBadSpec)

/-- ITS FALSE NEIGHBOUR: 'it returns false'. Refute it at one input. -/
def fnSeenNewBadWrong : ChangeSpec := { name := "fnSeenNewBad", fn := fun _ => fun
  | [d] => { results := [.lit (.bool false)], args := [d] }
  | _ => none }
def FnSeenNewBadWrongFalsely : Prop := fnSeenNewBadRow.holds Try.pinned (OpenSpec.ofChange fnSeenNewBadWrong)

/- THE SECOND FORM. 'bulk': how many values and letters a reading holds, each counted each time it is reached (what is shared counts as often as it is met; a slice's spare places count too). A statement '..UptoSaid' is the law's where the arguments, and the package variables that the reading takes, are together of bulk at most 1048576: NARROWER than '..Said'. Prove '..Said' where nothing that the law and all that it calls make is longer than what came in: it says more and counts as full. Else prove '..UptoSaid'. A law counts once. -/
mutual
def uptoBulk {H : Type} : DataW H → Nat
  | .lit (.string bytes) => bytes.length + 1
  | .lit _ => 1
  | .nil => 1
  | .ptr d => uptoBulk d + 1
  | .slice elems spare => uptoBulkAll elems + uptoBulkAll spare + 1
  | .agg parts => uptoBulkAll parts + 1
  | .iface _ d => uptoBulk d + 1
  | .map entries => uptoBulkEntries entries + 1
  | .held _ => 1
def uptoBulkAll {H : Type} : List (DataW H) → Nat
  | [] => 0
  | d :: r => uptoBulk d + uptoBulkAll r
def uptoBulkEntries {H : Type} : List (Lit × DataW H) → Nat
  | [] => 0
  | x :: r => uptoBulkEntry x + uptoBulkEntries r
def uptoBulkEntry {H : Type} : Lit × DataW H → Nat
  | (.string bytes, d) => bytes.length + uptoBulk d + 1
  | (_, d) => uptoBulk d + 1
 end
def uptoSmall : (H : Type) → List (DataW H) → Bool := fun _ ds => decide (uptoBulkAll ds ≤ 1048576)
def OpenSpec.upto (s : _root_.Go.ChangeSpec) : _root_.Go.OpenSpec := { _root_.Go.OpenSpec.ofChange s with cond := some uptoSmall }

/-- 'laws.FnExactRuleName', WHERE WHAT IT READS IS OF BULK AT MOST 1048576: true; the input reads as it did. -/
def fnExactRuleNameUptoRow : OpenClaim := { program := "ytdmdnakmjcikiaa", sum := "0d1f1b4c836b8ae053269b8de42e512afc84bd03bba83a62a279e3e732f70fc8", func := "loop.example/capturemonitor/laws.FnExactRuleName", spec := "fnExactRuleName", apart := false, narrowed := true }
def FnExactRuleNameUptoSaid : Prop := fnExactRuleNameUptoRow.holds Try.pinned (OpenSpec.upto fnExactRuleNameSpec)

/-- 'laws.FnRuleName', WHERE WHAT IT READS IS OF BULK AT MOST 1048576: true; the input reads as it did. -/
def fnRuleNameUptoRow : OpenClaim := { program := "ytdmdnakmjcikiaa", sum := "0d1f1b4c836b8ae053269b8de42e512afc84bd03bba83a62a279e3e732f70fc8", func := "loop.example/capturemonitor/laws.FnRuleName", spec := "fnRuleName", apart := false, narrowed := true }
def FnRuleNameUptoSaid : Prop := fnRuleNameUptoRow.holds Try.pinned (OpenSpec.upto fnRuleNameSpec)

/-- 'laws.FnAsmNewBad', WHERE WHAT IT READS IS OF BULK AT MOST 1048576: true; the input reads as it did. -/
def fnAsmNewBadUptoRow : OpenClaim := { program := "ytdmdnakmjcikiaa", sum := "0d1f1b4c836b8ae053269b8de42e512afc84bd03bba83a62a279e3e732f70fc8", func := "loop.example/capturemonitor/laws.FnAsmNewBad", spec := "fnAsmNewBad", apart := false, narrowed := true }
def FnAsmNewBadUptoSaid : Prop := fnAsmNewBadUptoRow.holds Try.pinned (OpenSpec.upto fnAsmNewBadSpec)

/-- 'laws.FnExactSeenValid', WHERE WHAT IT READS IS OF BULK AT MOST 1048576: true; the input reads as it did. -/
def fnExactSeenValidUptoRow : OpenClaim := { program := "ytdmdnakmjcikiaa", sum := "0d1f1b4c836b8ae053269b8de42e512afc84bd03bba83a62a279e3e732f70fc8", func := "loop.example/capturemonitor/laws.FnExactSeenValid", spec := "fnExactSeenValid", apart := false, narrowed := true }
def FnExactSeenValidUptoSaid : Prop := fnExactSeenValidUptoRow.holds Try.pinned (OpenSpec.upto fnExactSeenValidSpec)

/-- 'laws.FnExactSeenNew', WHERE WHAT IT READS IS OF BULK AT MOST 1048576: true; the input reads as it did. -/
def fnExactSeenNewUptoRow : OpenClaim := { program := "ytdmdnakmjcikiaa", sum := "0d1f1b4c836b8ae053269b8de42e512afc84bd03bba83a62a279e3e732f70fc8", func := "loop.example/capturemonitor/laws.FnExactSeenNew", spec := "fnExactSeenNew", apart := false, narrowed := true }
def FnExactSeenNewUptoSaid : Prop := fnExactSeenNewUptoRow.holds Try.pinned (OpenSpec.upto fnExactSeenNewSpec)

/-- 'laws.FnSeenNewBad', WHERE WHAT IT READS IS OF BULK AT MOST 1048576: true; the input reads as it did. -/
def fnSeenNewBadUptoRow : OpenClaim := { program := "ytdmdnakmjcikiaa", sum := "0d1f1b4c836b8ae053269b8de42e512afc84bd03bba83a62a279e3e732f70fc8", func := "loop.example/capturemonitor/laws.FnSeenNewBad", spec := "fnSeenNewBad", apart := false, narrowed := true }
def FnSeenNewBadUptoSaid : Prop := fnSeenNewBadUptoRow.holds Try.pinned (OpenSpec.upto fnSeenNewBadSpec)

end Rows
end Go.Proofs.Ytdmdnakmjcikiaa
