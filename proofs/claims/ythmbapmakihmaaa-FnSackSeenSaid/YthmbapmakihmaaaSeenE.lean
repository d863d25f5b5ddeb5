/-
  What the helpers of the exact laws on Seen return: sizes, copies, comparisons, marks. Conditions: those that each theorem bears.
-/
import Derived.Test.YthmbapmakihmaaaSeenV
import Derived.Test.YthmbapmakihmaaaSame
namespace Go.Proofs.Ythmbapmakihmaaa
open Go.ChangeShapes Go.WideShapes Go.ChangeAt Go.RowKit
set_option linter.unusedVariables false


theorem get_of_lt {α : Type} {xs : List α} {k : Nat} (h : k < xs.length) : ∃ z, xs[k]? = some z := ⟨_, List.getElem?_eq_getElem h⟩
theorem take_succ_of {α : Type} {xs : List α} {k : Nat} {z : α} (h : xs[k]? = some z) : xs.take (k + 1) = xs.take k ++ [z] := by rw [List.take_add_one, h]; rfl
theorem ints_at_ {zs : List Int} {k : Nat} {z : Int} (h : zs[k]? = some z) : (ints zs)[k]? = some (.int .i64 z) := by unfold ints; rw [List.getElem?_map, h]; rfl
theorem take_set_succ {α : Type} : ∀ (ys : List α) (k : Nat) (z : α), k < ys.length → (ys.set k z).take (k + 1) = ys.take k ++ [z]
  | [], _, _, h => by simp at h
  | y :: ys, 0, z, _ => by simp
  | y :: ys, k + 1, z, h => by simp only [List.set_cons_succ, List.take_succ_cons, List.cons_append]; rw [take_set_succ ys k z (by simpa using h)]
theorem ints_set (ys : List Int) (k : Nat) (z : Int) : (ints ys).set k (.int .i64 z) = ints (ys.set k z) := by unfold ints; rw [List.map_set]
theorem info_int' : (Try.prog.info? 3).map (fun i => (i.zero, i.size, i.bytes)) = some (some (.int .i64 0), 1, 8) := by kernel_rfl
theorem Own.put {w : World} {base : Nat} {e : TypeId} {size g n c : Nat} {xs : List Value} (h : Own w base e size (some ⟨g, 0, none⟩) n c xs) (j : Nat) (u : Value) : Own (w.setCell ⟨g, j, none⟩ u) base e size (some ⟨g, 0, none⟩) n c (xs.set j u) := (World.ownsRow.stored (w := w) h j u).1
theorem Own.cell {w : World} {base : Nat} {e : TypeId} {size g n c : Nat} {xs : List Value} (h : Own w base e size (some ⟨g, 0, none⟩) n c xs) (j : Nat) {u : Value} (hu : xs[j]? = some u) : w.cell? ⟨g, j, none⟩ = some u := by
  have hj : j < n * size := by
    have h1 := (List.getElem?_eq_some_iff.1 hu).1
    rw [h.1] at h1
    exact h1
  exact (World.ownsRow.cellAt (w := w) h j hj).trans hu
theorem Own.froz {w : World} {base : Nat} {e : TypeId} {size g n c : Nat} {xs : List Value} (h : Own w base e size (some ⟨g, 0, none⟩) n c xs) (j : Nat) : w.frozen? ⟨g, j, none⟩ = false := World.ownsRow.frozenAt (w := w) h j

def MadeInts (zs : List Int) (n : Nat) (w : World) (e : Ending) (w' : World) : Prop :=
  ∃ A c, e = .returned (.slice A n c) ∧ Own w' w.heap.size 3 1 A n c (ints zs) ∧ Below w.heap.size w w'

def MadeSeen (cum : Int) (zs : List Int) (n : Nat) (w : World) (e : Ending) (w' : World) : Prop :=
  ∃ A c, e = .returned (.agg #[.int .i64 cum, .slice A n c]) ∧ Own w' w.heap.size 3 1 A n c (ints zs) ∧ Below w.heap.size w w'

/-! ### Marks -/
def marks (k : Int) : Nat → List Int
  | 0 => []
  | n + 1 => k :: marks (k + 1) n
theorem marks_len : ∀ (n : Nat) (k : Int), (marks k n).length = n
  | 0, _ => rfl
  | n + 1, k => by simp [marks, marks_len n]
theorem marks_get : ∀ (n : Nat) (k : Int) (i : Nat), i < n → (marks k n)[i]? = some (k + i)
  | 0, _, _, h => by omega
  | n + 1, k, 0, _ => by simp [marks]
  | n + 1, k, i + 1, h => by
    simp only [marks, List.getElem?_cons_succ]
    rw [marks_get n (k + 1) i (by omega)]
    congr 1
    omega
def MarkPost (A : Option Addr) (n c : Nat) (k : Int) (base : Nat) (w : World) (e : Ending) (w' : World) : Prop :=
  e = .returned (.int .i64 (k + n)) ∧ Own w' base 3 1 A n c (ints (marks k n)) ∧ ∃ row, w.grownBy w' row ∧ ∀ g, row = some g → ∃ a, A = some a ∧ a.block = g
end Go.Proofs.Ythmbapmakihmaaa
