/-
  The laws' comparisons of lists, where both lists are equal: each returns true. Conditions: those that each theorem bears.
-/
import Derived.Test.YtgljbbdhhgamjaaRows
import Derived.Test.YtgljbbdhhgamjaaBase
import Derived.Test.YtgljbbdhhgamjaaNum
import Derived.Test.YtgljbbdhhgamjaaOwn
namespace Go.Proofs.Ytgljbbdhhgamjaa
open Go.ChangeShapes Go.WideShapes Go.ChangeAt Go.RowKit
set_option linter.unusedVariables false

def Quiet (v : Value) (w : World) (e : Ending) (w' : World) : Prop := e = .returned v ∧ ∃ m, w' = w.drewN m
theorem same_ints (A B : Option Addr) (n c d : Nat) (zs : List Int) (w : World) (hA : Sl w w.heap.size A (zs.map (Value.int .i64))) (hB : Sl w w.heap.size B (zs.map (Value.int .i64))) (hn : zs.length = n) (hm : n ≤ 9223372036854775807) :
    Calls Try.prog 51 #[.slice A n c, .slice B n d] w (Quiet (.bool true) w) := by
  have HA := Lib.hid hA; have HB := Lib.hid hB; have HN := Lib.hid hn; clear hA hB hn
  go_enter Try.func51, Try.ntmps51
  go_wp2
  go_loopw [5] (fun i wr => ∃ k m : Nat, k ≤ n ∧ i = .int .i64 k ∧ wr = w.drewN m) (fun i _ => n - (intOf i).toNat)
  case atStart => exact ⟨0, 0, by omega, rfl, rfl⟩
  case round =>
    obtain ⟨k, m, hk, rfl, rfl⟩ := hrel
    by_cases hlt : k < n
    · have hz : k < zs.length := by rw [HN.out]; exact hlt
      obtain ⟨b, off, rfl, hb, hc⟩ := HA.out.at_ (j := k) (by rw [List.length_map]; exact hz)
      obtain ⟨b', off', rfl, hb', hc'⟩ := HB.out.at_ (j := k) (by rw [List.length_map]; exact hz)
      have e1 := hc k (.int .i64 zs[k]) (by rw [List.getElem?_map, List.getElem?_eq_getElem hz]; rfl)
      have e2 := hc' k (.int .i64 zs[k]) (by rw [List.getElem?_map, List.getElem?_eq_getElem hz]; rfl)
      generalize zs[k] = z at e1 e2
      clear hc hc' hb hb' hz
      go_wp2
      go_quiet (fail)
      go_wp2
      go_roundw
      case rel => exact ⟨k + 1, _, by omega, by go_num, rfl⟩
      case measure => simp [intOf]; omega
    · go_wp2
      go_ret
      exact ⟨rfl, m, rfl⟩
theorem same_parts_nil (A B : Option Addr) (c d : Nat) (w : World) : Calls Try.prog 52 #[.slice A 0 c, .slice B 0 d] w (Quiet (.bool true) w) := by
  go_enter Try.func52, Try.ntmps52
  go_wp2
  go_rounds 1
  go_ret
  exact ⟨rfl, 0, rfl⟩
end Go.Proofs.Ytgljbbdhhgamjaa
