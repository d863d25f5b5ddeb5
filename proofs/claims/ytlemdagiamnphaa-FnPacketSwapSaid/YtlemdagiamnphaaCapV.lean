/-
  When a capture is valid, in the program and in the reference. Conditions: the list can be read.
-/
import Derived.Test.YtlemdagiamnphaaCapP
import Derived.Test.YtlemdagiamnphaaNum
import Derived.Test.YtlemdagiamnphaaFlat
import Derived.Deep.RegionHeld3
namespace Go.Proofs.Ytlemdagiamnphaa
open Go.ChangeShapes Go.WideShapes Go.ChangeAt Go.RowKit
set_option linter.unusedVariables false

def recC (r : Rec) : List Value := [.int .i64 r.1, .string r.2]
theorem recC_len (r : Rec) : (recC r).length = 2 := rfl
def recs (l : List Rec) : List Value := l.flatMap recC
theorem recs_len (l : List Rec) : (recs l).length = l.length * 2 := flat_len recC 2 recC_len l
theorem recs_one (l : List Rec) : ∀ u ∈ recs l, u.oneCell' = true := flat_one (fun g u hu => by
  unfold recC at hu
  simp at hu
  rcases hu with rfl | rfl <;> rfl)
theorem recs_app (a b : List Rec) : recs (a ++ b) = recs a ++ recs b := by unfold recs; rw [List.flatMap_append]
theorem recs_elem {w : World} {B : Nat} {A : Option Addr} {l : List Rec} (hs : Sl w B A (recs l)) {i : Nat} {r : Rec} (h : l[i]? = some r) :
    ∃ b off, A = some ⟨b, off, none⟩ ∧ b < B ∧ w.cell? ⟨b, off + i * 2, none⟩ = some (.int .i64 r.1) ∧ w.cell? ⟨b, off + i * 2 + 1, none⟩ = some (.string r.2) := by
  obtain ⟨b, off, e, hb, hc⟩ := hs.elem recC_len (by omega) h
  exact ⟨b, off, e, hb, hc 0 _ rfl, hc 1 _ rfl⟩
/-- Texts that a string may be. -/
def Txts (l : List Rec) : Prop := ∀ r ∈ l, r.2.size ≤ 9223372036854775807

end Go.Proofs.Ytlemdagiamnphaa
