/-
  What the laws' helpers on receipts return: sizes, copies, comparisons, marks. Conditions: those that each theorem bears.
-/
import Derived.Test.YthmbapmakihmaaaSackT
namespace Go.Proofs.Ythmbapmakihmaaa
open Go.ChangeShapes Go.WideShapes Go.ChangeAt Go.RowKit
set_option linter.unusedVariables false

theorem same_gaps (A B : Option Addr) (n c d : Nat) (gs : List (Int × Int)) (w : World) (hA : Sl w w.heap.size A (gaps gs)) (hB : Sl w w.heap.size B (gaps gs)) (hn : gs.length = n) (hm : n ≤ 9223372036854775807) :
    Calls Try.prog 16 #[.slice A n c, .slice B n d] w (Quiet (.bool true) w) := by
  have HA := Lib.hid hA; have HB := Lib.hid hB; have HN := Lib.hid hn; clear hA hB hn
  go_enter Try.func16, Try.ntmps16
  go_wp2
  go_loopw [5] (fun i wr => ∃ k m : Nat, k ≤ n ∧ i = .int .i64 k ∧ wr = w.drewN m) (fun i _ => n - (intOf i).toNat)
  case atStart => exact ⟨0, 0, by omega, rfl, rfl⟩
  case round =>
    obtain ⟨k, m, hk, rfl, rfl⟩ := hrel
    by_cases hlt : k < n
    · obtain ⟨g, hg⟩ := fget_of_lt (xs := gs) (k := k) (by rw [HN.out]; exact hlt)
      obtain ⟨b, off, rfl, hbl, e1, e2⟩ := gaps_elem HA.out hg
      obtain ⟨b', off', rfl, hbl', e1', e2'⟩ := gaps_elem HB.out hg
      obtain ⟨g1, g2⟩ := g
      have hk0 : (0 : Int) ≤ (k : Int) := by omega
      have hk1 : (k : Int) < (n : Int) := by omega
      clear hg hbl hbl'
      go_wp2
      go_quiet (fail)
      go_wp2
      go_roundw
      case rel => exact ⟨k + 1, _, by omega, by go_num, rfl⟩
      case measure => simp [intOf]; omega
    · go_wp2
      go_ret
      exact ⟨rfl, m, rfl⟩
theorem same_sack (cum : Int) (A B : Option Addr) (n c d : Nat) (gs : List (Int × Int)) (w : World) (hA : Sl w w.heap.size A (gaps gs)) (hB : Sl w w.heap.size B (gaps gs)) (hn : gs.length = n) (hm : n ≤ 9223372036854775807) :
    Calls Try.prog 9 #[.agg #[.int .i64 cum, .slice A n c], .agg #[.int .i64 cum, .slice B n d]] w fun e w' => e = .returned (.bool true) ∧ Below w.heap.size w w' := by
  have HA := Lib.hid hA; have HB := Lib.hid hB; have HN := Lib.hid hn; clear hA hB hn
  go_enter Try.func9, Try.ntmps9
  go_wp2_with fail
  refine (same_gaps _ _ _ _ _ gs _ (((HA.out.alloc (Nat.le_refl _) _).alloc (by simp) _).more (by simp; omega)) (((HB.out.alloc (Nat.le_refl _) _).alloc (by simp) _).more (by simp; omega)) HN.out hm).mono ?_
  rintro e w1 ⟨rfl, m, rfl⟩
  go_wp2
  go_ret
  exact ⟨rfl, below_drewN (((Below.refl _ w).alloc (Nat.le_refl _) _).alloc (by simp) _) _⟩

/-! ### Marks -/
def gmarks (k : Int) : Nat → List (Int × Int)
  | 0 => []
  | n + 1 => (k, k + 1) :: gmarks (k + 2) n
theorem gmarks_len : ∀ (n : Nat) (k : Int), (gmarks k n).length = n
  | 0, _ => rfl
  | n + 1, k => by simp [gmarks, gmarks_len n]
theorem gmarks_get : ∀ (n : Nat) (k : Int) (i : Nat), i < n → (gmarks k n)[i]? = some (k + 2 * i, k + 2 * i + 1)
  | 0, _, _, h => by omega
  | n + 1, k, 0, _ => by simp [gmarks]
  | n + 1, k, i + 1, h => by
    simp only [gmarks, List.getElem?_cons_succ]
    rw [gmarks_get n (k + 2) i (by omega)]
    congr 2 <;> omega
def MarkGPost (A : Option Addr) (n c : Nat) (k : Int) (base : Nat) (w : World) (e : Ending) (w' : World) : Prop :=
  e = .returned (.int .i64 (k + 2 * n)) ∧ Own w' base 42 2 A n c (gaps (gmarks k n)) ∧ ∃ row, w.grownBy w' row ∧ ∀ g, row = some g → ∃ a, A = some a ∧ a.block = g
end Go.Proofs.Ythmbapmakihmaaa
