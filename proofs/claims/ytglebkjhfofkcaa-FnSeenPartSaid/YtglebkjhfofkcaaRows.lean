/-
  No cell of these rows narrows 'for every input' (looked for: loops, veiled, ifaces, maps, wideKeys, modest, calm, conditions, laid).
  DERIVED. THE GIVEN ROWS OF THIS SEAT. 17 by the template 'for every input the law returns true; each argument reads behind the call as it read before'; 0 by the template 'total and deterministic' (their statements: YtglebkjhfofkcaaTotals.lean).
  GIVEN WITH THE SEED: the statements are not yours to turn. If you find one false, say at which input.
  Laid BY PROGRAM, IN A SANDBOX (cutbox-rows.mjs): the forced cells as the released guide's own fill.sh prints them over the translation d30e257f6014f5b8… (all of the seat's roots in one cut). By AI agents, Wed Nov 11 2026. No macro, syntax, notation, axiom, sorry.
-/
import Derived.Test.YtglebkjhfofkcaaChecked
import GoSem.Claim
import GoSem.ClaimJoined
import GoSem.ClaimMapViews
import Derived.JoinedTies
import Derived.KernelRfl
namespace Go.Proofs.Ytglebkjhfofkcaa
/- THE CELL 'sum', in the pinned program and in every row, IS THE sha256 OF THE DUMP (.gsa) THAT YtglebkjhfofkcaaProg.lean LOADS. Nothing in Lean hashes anything: it is a label: what it is worth is what the hold of that sum in a sandbox is worth. -/
noncomputable def Try.pinned : Pinned := { name := "ytglebkjhfofkcaa", sum := "d30e257f6014f5b877dddcbe27d50d5c0480ea89106d95a96ff9d8d55b7569a7", checked := Try.checked }
namespace Rows
def none {H : Type} : Left H := { results := [], args := [] }

/-- 'laws.FnSeenNew': WHATEVER THE INPUT: true; the input reads as it did. -/
def fnSeenNewSpec : ChangeSpec := { name := "fnSeenNew", fn := fun _ => fun
  | [d] => { results := [.lit (.bool true)], args := [d] }
  | _ => none }
def fnSeenNewRow : OpenClaim := { program := "ytglebkjhfofkcaa", sum := "d30e257f6014f5b877dddcbe27d50d5c0480ea89106d95a96ff9d8d55b7569a7", func := "loop.example/capturemonitor/laws.FnSeenNew", spec := "fnSeenNew", apart := false }
def FnSeenNewSaid : Prop := fnSeenNewRow.holds Try.pinned (OpenSpec.ofChange fnSeenNewSpec)

/-- ITS FALSE NEIGHBOUR: 'it returns false'. Refute it at one input. -/
def fnSeenNewWrong : ChangeSpec := { name := "fnSeenNew", fn := fun _ => fun
  | [d] => { results := [.lit (.bool false)], args := [d] }
  | _ => none }
def FnSeenNewWrongFalsely : Prop := fnSeenNewRow.holds Try.pinned (OpenSpec.ofChange fnSeenNewWrong)

/-- 'laws.FnExactSeenHas': WHATEVER THE INPUT: true; the input reads as it did. -/
def fnExactSeenHasSpec : ChangeSpec := { name := "fnExactSeenHas", fn := fun _ => fun
  | [d1, d2] => { results := [.lit (.bool true)], args := [d1, d2] }
  | _ => none }
def fnExactSeenHasRow : OpenClaim := { program := "ytglebkjhfofkcaa", sum := "d30e257f6014f5b877dddcbe27d50d5c0480ea89106d95a96ff9d8d55b7569a7", func := "loop.example/capturemonitor/laws.FnExactSeenHas", spec := "fnExactSeenHas", apart := false }
def FnExactSeenHasSaid : Prop := fnExactSeenHasRow.holds Try.pinned (OpenSpec.ofChange fnExactSeenHasSpec)

/-- ITS FALSE NEIGHBOUR: 'it returns false'. Refute it at one input. -/
def fnExactSeenHasWrong : ChangeSpec := { name := "fnExactSeenHas", fn := fun _ => fun
  | [d1, d2] => { results := [.lit (.bool false)], args := [d1, d2] }
  | _ => none }
def FnExactSeenHasWrongFalsely : Prop := fnExactSeenHasRow.holds Try.pinned (OpenSpec.ofChange fnExactSeenHasWrong)

/-- 'laws.FnSeenPart': WHATEVER THE INPUT: true; the input reads as it did. -/
def fnSeenPartSpec : ChangeSpec := { name := "fnSeenPart", fn := fun _ => fun
  | [d1, d2] => { results := [.lit (.bool true)], args := [d1, d2] }
  | _ => none }
def fnSeenPartRow : OpenClaim := { program := "ytglebkjhfofkcaa", sum := "d30e257f6014f5b877dddcbe27d50d5c0480ea89106d95a96ff9d8d55b7569a7", func := "loop.example/capturemonitor/laws.FnSeenPart", spec := "fnSeenPart", apart := false }
def FnSeenPartSaid : Prop := fnSeenPartRow.holds Try.pinned (OpenSpec.ofChange fnSeenPartSpec)

/-- ITS FALSE NEIGHBOUR: 'it returns false'. Refute it at one input. -/
def fnSeenPartWrong : ChangeSpec := { name := "fnSeenPart", fn := fun _ => fun
  | [d1, d2] => { results := [.lit (.bool false)], args := [d1, d2] }
  | _ => none }
def FnSeenPartWrongFalsely : Prop := fnSeenPartRow.holds Try.pinned (OpenSpec.ofChange fnSeenPartWrong)

/-- 'laws.FnSackSeen': WHATEVER THE INPUT: true; the input reads as it did. -/
def fnSackSeenSpec : ChangeSpec := { name := "fnSackSeen", fn := fun _ => fun
  | [d] => { results := [.lit (.bool true)], args := [d] }
  | _ => none }
def fnSackSeenRow : OpenClaim := { program := "ytglebkjhfofkcaa", sum := "d30e257f6014f5b877dddcbe27d50d5c0480ea89106d95a96ff9d8d55b7569a7", func := "loop.example/capturemonitor/laws.FnSackSeen", spec := "fnSackSeen", apart := false }
def FnSackSeenSaid : Prop := fnSackSeenRow.holds Try.pinned (OpenSpec.ofChange fnSackSeenSpec)

/-- ITS FALSE NEIGHBOUR: 'it returns false'. Refute it at one input. -/
def fnSackSeenWrong : ChangeSpec := { name := "fnSackSeen", fn := fun _ => fun
  | [d] => { results := [.lit (.bool false)], args := [d] }
  | _ => none }
def FnSackSeenWrongFalsely : Prop := fnSackSeenRow.holds Try.pinned (OpenSpec.ofChange fnSackSeenWrong)

/-- 'laws.FnExactSackSeen': WHATEVER THE INPUT: true; the input reads as it did. -/
def fnExactSackSeenSpec : ChangeSpec := { name := "fnExactSackSeen", fn := fun _ => fun
  | [d] => { results := [.lit (.bool true)], args := [d] }
  | _ => none }
def fnExactSackSeenRow : OpenClaim := { program := "ytglebkjhfofkcaa", sum := "d30e257f6014f5b877dddcbe27d50d5c0480ea89106d95a96ff9d8d55b7569a7", func := "loop.example/capturemonitor/laws.FnExactSackSeen", spec := "fnExactSackSeen", apart := false }
def FnExactSackSeenSaid : Prop := fnExactSackSeenRow.holds Try.pinned (OpenSpec.ofChange fnExactSackSeenSpec)

/-- ITS FALSE NEIGHBOUR: 'it returns false'. Refute it at one input. -/
def fnExactSackSeenWrong : ChangeSpec := { name := "fnExactSackSeen", fn := fun _ => fun
  | [d] => { results := [.lit (.bool false)], args := [d] }
  | _ => none }
def FnExactSackSeenWrongFalsely : Prop := fnExactSackSeenRow.holds Try.pinned (OpenSpec.ofChange fnExactSackSeenWrong)

/-- 'laws.FnSeenHas': WHATEVER THE INPUT: true; the input reads as it did. -/
def fnSeenHasSpec : ChangeSpec := { name := "fnSeenHas", fn := fun _ => fun
  | [d] => { results := [.lit (.bool true)], args := [d] }
  | _ => none }
def fnSeenHasRow : OpenClaim := { program := "ytglebkjhfofkcaa", sum := "d30e257f6014f5b877dddcbe27d50d5c0480ea89106d95a96ff9d8d55b7569a7", func := "loop.example/capturemonitor/laws.FnSeenHas", spec := "fnSeenHas", apart := false }
def FnSeenHasSaid : Prop := fnSeenHasRow.holds Try.pinned (OpenSpec.ofChange fnSeenHasSpec)

/-- ITS FALSE NEIGHBOUR: 'it returns false'. Refute it at one input. -/
def fnSeenHasWrong : ChangeSpec := { name := "fnSeenHas", fn := fun _ => fun
  | [d] => { results := [.lit (.bool false)], args := [d] }
  | _ => none }
def FnSeenHasWrongFalsely : Prop := fnSeenHasRow.holds Try.pinned (OpenSpec.ofChange fnSeenHasWrong)

/-- 'laws.FnExactSeenSack': WHATEVER THE INPUT: true; the input reads as it did. -/
def fnExactSeenSackSpec : ChangeSpec := { name := "fnExactSeenSack", fn := fun _ => fun
  | [d] => { results := [.lit (.bool true)], args := [d] }
  | _ => none }
def fnExactSeenSackRow : OpenClaim := { program := "ytglebkjhfofkcaa", sum := "d30e257f6014f5b877dddcbe27d50d5c0480ea89106d95a96ff9d8d55b7569a7", func := "loop.example/capturemonitor/laws.FnExactSeenSack", spec := "fnExactSeenSack", apart := false }
def FnExactSeenSackSaid : Prop := fnExactSeenSackRow.holds Try.pinned (OpenSpec.ofChange fnExactSeenSackSpec)

/-- ITS FALSE NEIGHBOUR: 'it returns false'. Refute it at one input. -/
def fnExactSeenSackWrong : ChangeSpec := { name := "fnExactSeenSack", fn := fun _ => fun
  | [d] => { results := [.lit (.bool false)], args := [d] }
  | _ => none }
def FnExactSeenSackWrongFalsely : Prop := fnExactSeenSackRow.holds Try.pinned (OpenSpec.ofChange fnExactSeenSackWrong)

/-- 'laws.FnExactSeenAdd': WHATEVER THE INPUT: true; the input reads as it did. -/
def fnExactSeenAddSpec : ChangeSpec := { name := "fnExactSeenAdd", fn := fun _ => fun
  | [d1, d2] => { results := [.lit (.bool true)], args := [d1, d2] }
  | _ => none }
def fnExactSeenAddRow : OpenClaim := { program := "ytglebkjhfofkcaa", sum := "d30e257f6014f5b877dddcbe27d50d5c0480ea89106d95a96ff9d8d55b7569a7", func := "loop.example/capturemonitor/laws.FnExactSeenAdd", spec := "fnExactSeenAdd", apart := false }
def FnExactSeenAddSaid : Prop := fnExactSeenAddRow.holds Try.pinned (OpenSpec.ofChange fnExactSeenAddSpec)

/-- ITS FALSE NEIGHBOUR: 'it returns false'. Refute it at one input. -/
def fnExactSeenAddWrong : ChangeSpec := { name := "fnExactSeenAdd", fn := fun _ => fun
  | [d1, d2] => { results := [.lit (.bool false)], args := [d1, d2] }
  | _ => none }
def FnExactSeenAddWrongFalsely : Prop := fnExactSeenAddRow.holds Try.pinned (OpenSpec.ofChange fnExactSeenAddWrong)

/-- 'laws.FnSeenAddFar': WHATEVER THE INPUT: true; the input reads as it did. -/
def fnSeenAddFarSpec : ChangeSpec := { name := "fnSeenAddFar", fn := fun _ => fun
  | [d] => { results := [.lit (.bool true)], args := [d] }
  | _ => none }
def fnSeenAddFarRow : OpenClaim := { program := "ytglebkjhfofkcaa", sum := "d30e257f6014f5b877dddcbe27d50d5c0480ea89106d95a96ff9d8d55b7569a7", func := "loop.example/capturemonitor/laws.FnSeenAddFar", spec := "fnSeenAddFar", apart := false }
def FnSeenAddFarSaid : Prop := fnSeenAddFarRow.holds Try.pinned (OpenSpec.ofChange fnSeenAddFarSpec)

/-- ITS FALSE NEIGHBOUR: 'it returns false'. Refute it at one input. -/
def fnSeenAddFarWrong : ChangeSpec := { name := "fnSeenAddFar", fn := fun _ => fun
  | [d] => { results := [.lit (.bool false)], args := [d] }
  | _ => none }
def FnSeenAddFarWrongFalsely : Prop := fnSeenAddFarRow.holds Try.pinned (OpenSpec.ofChange fnSeenAddFarWrong)

/-- 'laws.FnSeenAddOrder': WHATEVER THE INPUT: true; the input reads as it did. -/
def fnSeenAddOrderSpec : ChangeSpec := { name := "fnSeenAddOrder", fn := fun _ => fun
  | [d1, d2] => { results := [.lit (.bool true)], args := [d1, d2] }
  | _ => none }
def fnSeenAddOrderRow : OpenClaim := { program := "ytglebkjhfofkcaa", sum := "d30e257f6014f5b877dddcbe27d50d5c0480ea89106d95a96ff9d8d55b7569a7", func := "loop.example/capturemonitor/laws.FnSeenAddOrder", spec := "fnSeenAddOrder", apart := false }
def FnSeenAddOrderSaid : Prop := fnSeenAddOrderRow.holds Try.pinned (OpenSpec.ofChange fnSeenAddOrderSpec)

/-- ITS FALSE NEIGHBOUR: 'it returns false'. Refute it at one input. -/
def fnSeenAddOrderWrong : ChangeSpec := { name := "fnSeenAddOrder", fn := fun _ => fun
  | [d1, d2] => { results := [.lit (.bool false)], args := [d1, d2] }
  | _ => none }
def FnSeenAddOrderWrongFalsely : Prop := fnSeenAddOrderRow.holds Try.pinned (OpenSpec.ofChange fnSeenAddOrderWrong)

/-- 'laws.FnSeenAddTwice': WHATEVER THE INPUT: true; the input reads as it did. -/
def fnSeenAddTwiceSpec : ChangeSpec := { name := "fnSeenAddTwice", fn := fun _ => fun
  | [d] => { results := [.lit (.bool true)], args := [d] }
  | _ => none }
def fnSeenAddTwiceRow : OpenClaim := { program := "ytglebkjhfofkcaa", sum := "d30e257f6014f5b877dddcbe27d50d5c0480ea89106d95a96ff9d8d55b7569a7", func := "loop.example/capturemonitor/laws.FnSeenAddTwice", spec := "fnSeenAddTwice", apart := false }
def FnSeenAddTwiceSaid : Prop := fnSeenAddTwiceRow.holds Try.pinned (OpenSpec.ofChange fnSeenAddTwiceSpec)

/-- ITS FALSE NEIGHBOUR: 'it returns false'. Refute it at one input. -/
def fnSeenAddTwiceWrong : ChangeSpec := { name := "fnSeenAddTwice", fn := fun _ => fun
  | [d] => { results := [.lit (.bool false)], args := [d] }
  | _ => none }
def FnSeenAddTwiceWrongFalsely : Prop := fnSeenAddTwiceRow.holds Try.pinned (OpenSpec.ofChange fnSeenAddTwiceWrong)

/-- 'laws.FnSeenAddNext': WHATEVER THE INPUT: true; the input reads as it did. -/
def fnSeenAddNextSpec : ChangeSpec := { name := "fnSeenAddNext", fn := fun _ => fun
  | [d] => { results := [.lit (.bool true)], args := [d] }
  | _ => none }
def fnSeenAddNextRow : OpenClaim := { program := "ytglebkjhfofkcaa", sum := "d30e257f6014f5b877dddcbe27d50d5c0480ea89106d95a96ff9d8d55b7569a7", func := "loop.example/capturemonitor/laws.FnSeenAddNext", spec := "fnSeenAddNext", apart := false }
def FnSeenAddNextSaid : Prop := fnSeenAddNextRow.holds Try.pinned (OpenSpec.ofChange fnSeenAddNextSpec)

/-- ITS FALSE NEIGHBOUR: 'it returns false'. Refute it at one input. -/
def fnSeenAddNextWrong : ChangeSpec := { name := "fnSeenAddNext", fn := fun _ => fun
  | [d] => { results := [.lit (.bool false)], args := [d] }
  | _ => none }
def FnSeenAddNextWrongFalsely : Prop := fnSeenAddNextRow.holds Try.pinned (OpenSpec.ofChange fnSeenAddNextWrong)

/-- 'laws.FnSeenSackBack': WHATEVER THE INPUT: true; the input reads as it did. -/
def fnSeenSackBackSpec : ChangeSpec := { name := "fnSeenSackBack", fn := fun _ => fun
  | [d] => { results := [.lit (.bool true)], args := [d] }
  | _ => none }
def fnSeenSackBackRow : OpenClaim := { program := "ytglebkjhfofkcaa", sum := "d30e257f6014f5b877dddcbe27d50d5c0480ea89106d95a96ff9d8d55b7569a7", func := "loop.example/capturemonitor/laws.FnSeenSackBack", spec := "fnSeenSackBack", apart := false }
def FnSeenSackBackSaid : Prop := fnSeenSackBackRow.holds Try.pinned (OpenSpec.ofChange fnSeenSackBackSpec)

/-- ITS FALSE NEIGHBOUR: 'it returns false'. Refute it at one input. -/
def fnSeenSackBackWrong : ChangeSpec := { name := "fnSeenSackBack", fn := fun _ => fun
  | [d] => { results := [.lit (.bool false)], args := [d] }
  | _ => none }
def FnSeenSackBackWrongFalsely : Prop := fnSeenSackBackRow.holds Try.pinned (OpenSpec.ofChange fnSeenSackBackWrong)

/-- 'laws.FnSeenAdd': WHATEVER THE INPUT: true; the input reads as it did. -/
def fnSeenAddSpec : ChangeSpec := { name := "fnSeenAdd", fn := fun _ => fun
  | [d] => { results := [.lit (.bool true)], args := [d] }
  | _ => none }
def fnSeenAddRow : OpenClaim := { program := "ytglebkjhfofkcaa", sum := "d30e257f6014f5b877dddcbe27d50d5c0480ea89106d95a96ff9d8d55b7569a7", func := "loop.example/capturemonitor/laws.FnSeenAdd", spec := "fnSeenAdd", apart := false }
def FnSeenAddSaid : Prop := fnSeenAddRow.holds Try.pinned (OpenSpec.ofChange fnSeenAddSpec)

/-- ITS FALSE NEIGHBOUR: 'it returns false'. Refute it at one input. -/
def fnSeenAddWrong : ChangeSpec := { name := "fnSeenAdd", fn := fun _ => fun
  | [d] => { results := [.lit (.bool false)], args := [d] }
  | _ => none }
def FnSeenAddWrongFalsely : Prop := fnSeenAddRow.holds Try.pinned (OpenSpec.ofChange fnSeenAddWrong)

/-- 'laws.FnSeenAddOld': WHATEVER THE INPUT: true; the input reads as it did. -/
def fnSeenAddOldSpec : ChangeSpec := { name := "fnSeenAddOld", fn := fun _ => fun
  | [d] => { results := [.lit (.bool true)], args := [d] }
  | _ => none }
def fnSeenAddOldRow : OpenClaim := { program := "ytglebkjhfofkcaa", sum := "d30e257f6014f5b877dddcbe27d50d5c0480ea89106d95a96ff9d8d55b7569a7", func := "loop.example/capturemonitor/laws.FnSeenAddOld", spec := "fnSeenAddOld", apart := false }
def FnSeenAddOldSaid : Prop := fnSeenAddOldRow.holds Try.pinned (OpenSpec.ofChange fnSeenAddOldSpec)

/-- ITS FALSE NEIGHBOUR: 'it returns false'. Refute it at one input. -/
def fnSeenAddOldWrong : ChangeSpec := { name := "fnSeenAddOld", fn := fun _ => fun
  | [d] => { results := [.lit (.bool false)], args := [d] }
  | _ => none }
def FnSeenAddOldWrongFalsely : Prop := fnSeenAddOldRow.holds Try.pinned (OpenSpec.ofChange fnSeenAddOldWrong)

/-- 'laws.FnSeenAddOthers': WHATEVER THE INPUT: true; the input reads as it did. -/
def fnSeenAddOthersSpec : ChangeSpec := { name := "fnSeenAddOthers", fn := fun _ => fun
  | [d] => { results := [.lit (.bool true)], args := [d] }
  | _ => none }
def fnSeenAddOthersRow : OpenClaim := { program := "ytglebkjhfofkcaa", sum := "d30e257f6014f5b877dddcbe27d50d5c0480ea89106d95a96ff9d8d55b7569a7", func := "loop.example/capturemonitor/laws.FnSeenAddOthers", spec := "fnSeenAddOthers", apart := false }
def FnSeenAddOthersSaid : Prop := fnSeenAddOthersRow.holds Try.pinned (OpenSpec.ofChange fnSeenAddOthersSpec)

/-- ITS FALSE NEIGHBOUR: 'it returns false'. Refute it at one input. -/
def fnSeenAddOthersWrong : ChangeSpec := { name := "fnSeenAddOthers", fn := fun _ => fun
  | [d] => { results := [.lit (.bool false)], args := [d] }
  | _ => none }
def FnSeenAddOthersWrongFalsely : Prop := fnSeenAddOthersRow.holds Try.pinned (OpenSpec.ofChange fnSeenAddOthersWrong)

/-- 'laws.FnSeenSack': WHATEVER THE INPUT: true; the input reads as it did. -/
def fnSeenSackSpec : ChangeSpec := { name := "fnSeenSack", fn := fun _ => fun
  | [d] => { results := [.lit (.bool true)], args := [d] }
  | _ => none }
def fnSeenSackRow : OpenClaim := { program := "ytglebkjhfofkcaa", sum := "d30e257f6014f5b877dddcbe27d50d5c0480ea89106d95a96ff9d8d55b7569a7", func := "loop.example/capturemonitor/laws.FnSeenSack", spec := "fnSeenSack", apart := false }
def FnSeenSackSaid : Prop := fnSeenSackRow.holds Try.pinned (OpenSpec.ofChange fnSeenSackSpec)

/-- ITS FALSE NEIGHBOUR: 'it returns false'. Refute it at one input. -/
def fnSeenSackWrong : ChangeSpec := { name := "fnSeenSack", fn := fun _ => fun
  | [d] => { results := [.lit (.bool false)], args := [d] }
  | _ => none }
def FnSeenSackWrongFalsely : Prop := fnSeenSackRow.holds Try.pinned (OpenSpec.ofChange fnSeenSackWrong)

/- THE SECOND FORM. 'bulk': how many values and letters a reading holds, each counted each time it is reached (what is shared counts as often as it is met; a slice's spare places count too). A statement '..UptoSaid' is the law's where the arguments, and the package variables that the reading takes, are together of bulk at most 1048576: NARROWER than '..Said'. Prove '..Said' where nothing that the law and all that it calls make is longer than what came in: it says more and counts as full. Else prove '..UptoSaid'. A law counts once. -/
mutual
def uptoBulk {H : Type} : DataW H → Nat
  | .lit (.string bytes) => bytes.length + 1
  | .lit _ => 1
  | .nil => 1
  | .ptr d => uptoBulk d + 1
  | .slice elems spare => uptoBulkAll elems + uptoBulkAll spare + 1
  | .agg parts => uptoBulkAll parts + 1
  | .iface _ d => uptoBulk d + 1
  | .map entries => uptoBulkEntries entries + 1
  | .held _ => 1
def uptoBulkAll {H : Type} : List (DataW H) → Nat
  | [] => 0
  | d :: r => uptoBulk d + uptoBulkAll r
def uptoBulkEntries {H : Type} : List (Lit × DataW H) → Nat
  | [] => 0
  | x :: r => uptoBulkEntry x + uptoBulkEntries r
def uptoBulkEntry {H : Type} : Lit × DataW H → Nat
  | (.string bytes, d) => bytes.length + uptoBulk d + 1
  | (_, d) => uptoBulk d + 1
 end
def uptoSmall : (H : Type) → List (DataW H) → Bool := fun _ ds => decide (uptoBulkAll ds ≤ 1048576)
def OpenSpec.upto (s : _root_.Go.ChangeSpec) : _root_.Go.OpenSpec := { _root_.Go.OpenSpec.ofChange s with cond := some uptoSmall }

/-- 'laws.FnSeenNew', WHERE WHAT IT READS IS OF BULK AT MOST 1048576: true; the input reads as it did. -/
def fnSeenNewUptoRow : OpenClaim := { program := "ytglebkjhfofkcaa", sum := "d30e257f6014f5b877dddcbe27d50d5c0480ea89106d95a96ff9d8d55b7569a7", func := "loop.example/capturemonitor/laws.FnSeenNew", spec := "fnSeenNew", apart := false, narrowed := true }
def FnSeenNewUptoSaid : Prop := fnSeenNewUptoRow.holds Try.pinned (OpenSpec.upto fnSeenNewSpec)

/-- 'laws.FnExactSeenHas', WHERE WHAT IT READS IS OF BULK AT MOST 1048576: true; the input reads as it did. -/
def fnExactSeenHasUptoRow : OpenClaim := { program := "ytglebkjhfofkcaa", sum := "d30e257f6014f5b877dddcbe27d50d5c0480ea89106d95a96ff9d8d55b7569a7", func := "loop.example/capturemonitor/laws.FnExactSeenHas", spec := "fnExactSeenHas", apart := false, narrowed := true }
def FnExactSeenHasUptoSaid : Prop := fnExactSeenHasUptoRow.holds Try.pinned (OpenSpec.upto fnExactSeenHasSpec)

/-- 'laws.FnSeenPart', WHERE WHAT IT READS IS OF BULK AT MOST 1048576: true; the input reads as it did. -/
def fnSeenPartUptoRow : OpenClaim := { program := "ytglebkjhfofkcaa", sum := "d30e257f6014f5b877dddcbe27d50d5c0480ea89106d95a96ff9d8d55b7569a7", func := "loop.example/capturemonitor/laws.FnSeenPart", spec := "fnSeenPart", apart := false, narrowed := true }
def FnSeenPartUptoSaid : Prop := fnSeenPartUptoRow.holds Try.pinned (OpenSpec.upto fnSeenPartSpec)

/-- 'laws.FnSackSeen', WHERE WHAT IT READS IS OF BULK AT MOST 1048576: true; the input reads as it did. -/
def fnSackSeenUptoRow : OpenClaim := { program := "ytglebkjhfofkcaa", sum := "d30e257f6014f5b877dddcbe27d50d5c0480ea89106d95a96ff9d8d55b7569a7", func := "loop.example/capturemonitor/laws.FnSackSeen", spec := "fnSackSeen", apart := false, narrowed := true }
def FnSackSeenUptoSaid : Prop := fnSackSeenUptoRow.holds Try.pinned (OpenSpec.upto fnSackSeenSpec)

/-- 'laws.FnExactSackSeen', WHERE WHAT IT READS IS OF BULK AT MOST 1048576: true; the input reads as it did. -/
def fnExactSackSeenUptoRow : OpenClaim := { program := "ytglebkjhfofkcaa", sum := "d30e257f6014f5b877dddcbe27d50d5c0480ea89106d95a96ff9d8d55b7569a7", func := "loop.example/capturemonitor/laws.FnExactSackSeen", spec := "fnExactSackSeen", apart := false, narrowed := true }
def FnExactSackSeenUptoSaid : Prop := fnExactSackSeenUptoRow.holds Try.pinned (OpenSpec.upto fnExactSackSeenSpec)

/-- 'laws.FnSeenHas', WHERE WHAT IT READS IS OF BULK AT MOST 1048576: true; the input reads as it did. -/
def fnSeenHasUptoRow : OpenClaim := { program := "ytglebkjhfofkcaa", sum := "d30e257f6014f5b877dddcbe27d50d5c0480ea89106d95a96ff9d8d55b7569a7", func := "loop.example/capturemonitor/laws.FnSeenHas", spec := "fnSeenHas", apart := false, narrowed := true }
def FnSeenHasUptoSaid : Prop := fnSeenHasUptoRow.holds Try.pinned (OpenSpec.upto fnSeenHasSpec)

/-- 'laws.FnExactSeenSack', WHERE WHAT IT READS IS OF BULK AT MOST 1048576: true; the input reads as it did. -/
def fnExactSeenSackUptoRow : OpenClaim := { program := "ytglebkjhfofkcaa", sum := "d30e257f6014f5b877dddcbe27d50d5c0480ea89106d95a96ff9d8d55b7569a7", func := "loop.example/capturemonitor/laws.FnExactSeenSack", spec := "fnExactSeenSack", apart := false, narrowed := true }
def FnExactSeenSackUptoSaid : Prop := fnExactSeenSackUptoRow.holds Try.pinned (OpenSpec.upto fnExactSeenSackSpec)

/-- 'laws.FnExactSeenAdd', WHERE WHAT IT READS IS OF BULK AT MOST 1048576: true; the input reads as it did. -/
def fnExactSeenAddUptoRow : OpenClaim := { program := "ytglebkjhfofkcaa", sum := "d30e257f6014f5b877dddcbe27d50d5c0480ea89106d95a96ff9d8d55b7569a7", func := "loop.example/capturemonitor/laws.FnExactSeenAdd", spec := "fnExactSeenAdd", apart := false, narrowed := true }
def FnExactSeenAddUptoSaid : Prop := fnExactSeenAddUptoRow.holds Try.pinned (OpenSpec.upto fnExactSeenAddSpec)

/-- 'laws.FnSeenAddFar', WHERE WHAT IT READS IS OF BULK AT MOST 1048576: true; the input reads as it did. -/
def fnSeenAddFarUptoRow : OpenClaim := { program := "ytglebkjhfofkcaa", sum := "d30e257f6014f5b877dddcbe27d50d5c0480ea89106d95a96ff9d8d55b7569a7", func := "loop.example/capturemonitor/laws.FnSeenAddFar", spec := "fnSeenAddFar", apart := false, narrowed := true }
def FnSeenAddFarUptoSaid : Prop := fnSeenAddFarUptoRow.holds Try.pinned (OpenSpec.upto fnSeenAddFarSpec)

/-- 'laws.FnSeenAddOrder', WHERE WHAT IT READS IS OF BULK AT MOST 1048576: true; the input reads as it did. -/
def fnSeenAddOrderUptoRow : OpenClaim := { program := "ytglebkjhfofkcaa", sum := "d30e257f6014f5b877dddcbe27d50d5c0480ea89106d95a96ff9d8d55b7569a7", func := "loop.example/capturemonitor/laws.FnSeenAddOrder", spec := "fnSeenAddOrder", apart := false, narrowed := true }
def FnSeenAddOrderUptoSaid : Prop := fnSeenAddOrderUptoRow.holds Try.pinned (OpenSpec.upto fnSeenAddOrderSpec)

/-- 'laws.FnSeenAddTwice', WHERE WHAT IT READS IS OF BULK AT MOST 1048576: true; the input reads as it did. -/
def fnSeenAddTwiceUptoRow : OpenClaim := { program := "ytglebkjhfofkcaa", sum := "d30e257f6014f5b877dddcbe27d50d5c0480ea89106d95a96ff9d8d55b7569a7", func := "loop.example/capturemonitor/laws.FnSeenAddTwice", spec := "fnSeenAddTwice", apart := false, narrowed := true }
def FnSeenAddTwiceUptoSaid : Prop := fnSeenAddTwiceUptoRow.holds Try.pinned (OpenSpec.upto fnSeenAddTwiceSpec)

/-- 'laws.FnSeenAddNext', WHERE WHAT IT READS IS OF BULK AT MOST 1048576: true; the input reads as it did. -/
def fnSeenAddNextUptoRow : OpenClaim := { program := "ytglebkjhfofkcaa", sum := "d30e257f6014f5b877dddcbe27d50d5c0480ea89106d95a96ff9d8d55b7569a7", func := "loop.example/capturemonitor/laws.FnSeenAddNext", spec := "fnSeenAddNext", apart := false, narrowed := true }
def FnSeenAddNextUptoSaid : Prop := fnSeenAddNextUptoRow.holds Try.pinned (OpenSpec.upto fnSeenAddNextSpec)

/-- 'laws.FnSeenSackBack', WHERE WHAT IT READS IS OF BULK AT MOST 1048576: true; the input reads as it did. -/
def fnSeenSackBackUptoRow : OpenClaim := { program := "ytglebkjhfofkcaa", sum := "d30e257f6014f5b877dddcbe27d50d5c0480ea89106d95a96ff9d8d55b7569a7", func := "loop.example/capturemonitor/laws.FnSeenSackBack", spec := "fnSeenSackBack", apart := false, narrowed := true }
def FnSeenSackBackUptoSaid : Prop := fnSeenSackBackUptoRow.holds Try.pinned (OpenSpec.upto fnSeenSackBackSpec)

/-- 'laws.FnSeenAdd', WHERE WHAT IT READS IS OF BULK AT MOST 1048576: true; the input reads as it did. -/
def fnSeenAddUptoRow : OpenClaim := { program := "ytglebkjhfofkcaa", sum := "d30e257f6014f5b877dddcbe27d50d5c0480ea89106d95a96ff9d8d55b7569a7", func := "loop.example/capturemonitor/laws.FnSeenAdd", spec := "fnSeenAdd", apart := false, narrowed := true }
def FnSeenAddUptoSaid : Prop := fnSeenAddUptoRow.holds Try.pinned (OpenSpec.upto fnSeenAddSpec)

/-- 'laws.FnSeenAddOld', WHERE WHAT IT READS IS OF BULK AT MOST 1048576: true; the input reads as it did. -/
def fnSeenAddOldUptoRow : OpenClaim := { program := "ytglebkjhfofkcaa", sum := "d30e257f6014f5b877dddcbe27d50d5c0480ea89106d95a96ff9d8d55b7569a7", func := "loop.example/capturemonitor/laws.FnSeenAddOld", spec := "fnSeenAddOld", apart := false, narrowed := true }
def FnSeenAddOldUptoSaid : Prop := fnSeenAddOldUptoRow.holds Try.pinned (OpenSpec.upto fnSeenAddOldSpec)

/-- 'laws.FnSeenAddOthers', WHERE WHAT IT READS IS OF BULK AT MOST 1048576: true; the input reads as it did. -/
def fnSeenAddOthersUptoRow : OpenClaim := { program := "ytglebkjhfofkcaa", sum := "d30e257f6014f5b877dddcbe27d50d5c0480ea89106d95a96ff9d8d55b7569a7", func := "loop.example/capturemonitor/laws.FnSeenAddOthers", spec := "fnSeenAddOthers", apart := false, narrowed := true }
def FnSeenAddOthersUptoSaid : Prop := fnSeenAddOthersUptoRow.holds Try.pinned (OpenSpec.upto fnSeenAddOthersSpec)

/-- 'laws.FnSeenSack', WHERE WHAT IT READS IS OF BULK AT MOST 1048576: true; the input reads as it did. -/
def fnSeenSackUptoRow : OpenClaim := { program := "ytglebkjhfofkcaa", sum := "d30e257f6014f5b877dddcbe27d50d5c0480ea89106d95a96ff9d8d55b7569a7", func := "loop.example/capturemonitor/laws.FnSeenSack", spec := "fnSeenSack", apart := false, narrowed := true }
def FnSeenSackUptoSaid : Prop := fnSeenSackUptoRow.holds Try.pinned (OpenSpec.upto fnSeenSackSpec)

end Rows
end Go.Proofs.Ytglebkjhfofkcaa
