/-
  What the laws on written captures need. No condition but those that each theorem bears.
-/
import Derived.Test.YtmphkogaclfjmaaCapI
import Derived.Test.YtmphkogaclfjmaaCapL
import Derived.Test.YtmphkogaclfjmaaCapG
import Derived.Test.YtmphkogaclfjmaaDrawR2
namespace Go.Proofs.Ytmphkogaclfjmaa
open Go.ChangeShapes Go.WideShapes Go.ChangeAt Go.RowKit
set_option linter.unusedVariables false

theorem put_size {l : List Rec} (h : capB l = true) : (capPut l).size = 4 + (allBytes l).length := by rw [capPut_yes h, mk_size, cbytes_len]
theorem put_max {l : List Rec} (h : capB l = true) : (capPut l).size ≤ 8000 := by
  rw [put_size h]
  obtain ⟨h1, h2⟩ := capB_true h
  have := allBytes_len l 0 h2
  omega
theorem ba_some {s : ByteArray} (h : 0 < s.size) : s.toList.isEmpty = false := by
  rw [bl_toList]
  rw [← bl_len] at h
  cases e : bl s with
  | nil => rw [e] at h; exact absurd h (by simp)
  | cons a l => rfl
/-- What the sizes come to. -/
def sizes (l : List Rec) : Int := 4 + ((allBytes l).length : Int)
theorem size_sum (l : List Rec) : ((capBytes l).length : Int) = sizes l := by unfold sizes; rw [cbytes_len]; omega
theorem sizes_step {l : List Rec} {k : Nat} {r : Rec} (h : l[k]? = some r) : sizes (l.take (k + 1)) = sizes (l.take k) + 6 + r.2.size := by
  unfold sizes
  rw [allBytes_take h, List.length_append, recBytes_len]
  omega
end Go.Proofs.Ytmphkogaclfjmaa
