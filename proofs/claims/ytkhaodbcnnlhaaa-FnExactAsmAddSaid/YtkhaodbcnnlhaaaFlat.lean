/-
  Rows of structs: lists of elements with a fixed number of cells each. No condition but those that each theorem bears.
-/
import Derived.Test.YtkhaodbcnnlhaaaOwn
namespace Go.Proofs.Ytkhaodbcnnlhaaa
open Go.ChangeShapes Go.WideShapes Go.ChangeAt Go.RowKit
set_option linter.unusedVariables false

theorem fget_of_lt {α : Type} {xs : List α} {k : Nat} (h : k < xs.length) : ∃ z, xs[k]? = some z := ⟨_, List.getElem?_eq_getElem h⟩
theorem ftake_succ {α : Type} {xs : List α} {k : Nat} {z : α} (h : xs[k]? = some z) : xs.take (k + 1) = xs.take k ++ [z] := by rw [List.take_add_one, h]; rfl
theorem ftake_set {α : Type} : ∀ (ys : List α) (k : Nat) (z : α), k < ys.length → (ys.set k z).take (k + 1) = ys.take k ++ [z]
  | [], _, _, h => by simp at h
  | y :: ys, 0, z, _ => by simp
  | y :: ys, k + 1, z, h => by simp only [List.set_cons_succ, List.take_succ_cons, List.cons_append]; rw [ftake_set ys k z (by simpa using h)]
theorem ftake_all {α : Type} {ys zs : List α} {k n : Nat} (h : ys.take k = zs.take k) (hy : ys.length = n) (hz : zs.length = n) (hk : k = n) : ys = zs := by
  rw [List.take_of_length_le (by omega), List.take_of_length_le (by omega)] at h
  exact h

section
variable {α : Type} {f : α → List Value} {k : Nat}
theorem flat_take (hf : ∀ a, (f a).length = k) : ∀ (l : List α) (i : Nat), (l.flatMap f).take (i * k) = (l.take i).flatMap f
  | [], i => by simp
  | a :: l, 0 => by simp
  | a :: l, i + 1 => by
    simp only [List.flatMap_cons, List.take_succ_cons]
    rw [show (i + 1) * k = (f a).length + i * k from by rw [hf, Nat.add_mul]; omega, List.take_length_add_append, flat_take hf l i]
theorem flat_drop (hf : ∀ a, (f a).length = k) : ∀ (l : List α) (i : Nat), (l.flatMap f).drop (i * k) = (l.drop i).flatMap f
  | [], i => by simp
  | a :: l, 0 => by simp
  | a :: l, i + 1 => by
    simp only [List.flatMap_cons, List.drop_succ_cons]
    rw [show (i + 1) * k = (f a).length + i * k from by rw [hf, Nat.add_mul]; omega, List.drop_length_add_append, flat_drop hf l i]
/-- Cells from o on, stored one after the other. -/
def setMany : List Value → Nat → List Value → List Value
  | xs, _, [] => xs
  | xs, o, u :: r => setMany (xs.set o u) (o + 1) r
theorem setMany_eq : ∀ (us xs : List Value) (o : Nat), o + us.length ≤ xs.length → setMany xs o us = xs.take o ++ us ++ xs.drop (o + us.length)
  | [], xs, o, h => by simp [setMany]
  | u :: r, xs, o, h => by
    simp only [List.length_cons] at h
    rw [setMany, setMany_eq r _ _ (by rw [List.length_set]; omega), ftake_set xs o u (by omega), List.drop_set_of_lt (by omega)]
    simp only [List.length_cons, List.append_assoc, List.cons_append, List.nil_append]
    rw [show o + 1 + r.length = o + (r.length + 1) from by omega]
theorem flat_setMany (hf : ∀ a, (f a).length = k) (l : List α) (i : Nat) (a : α) (h : i < l.length) : setMany (l.flatMap f) (i * k) (f a) = (l.set i a).flatMap f := by
  have hl := flat_len f k hf l
  have h2 : i * k + k ≤ l.length * k := by rw [← Nat.succ_mul]; exact Nat.mul_le_mul_right k h
  rw [setMany_eq _ _ _ (by rw [hf, hl]; exact h2), flat_take hf, hf, show i * k + k = (i + 1) * k from (Nat.succ_mul i k).symm, flat_drop hf, List.set_eq_take_append_cons_drop, if_pos h]
  simp
theorem flat_at (hf : ∀ a, (f a).length = k) {l : List α} {i : Nat} {a : α} (h : l[i]? = some a) {j : Nat} {u : Value} (hu : (f a)[j]? = some u) : (l.flatMap f)[i * k + j]? = some u := by
  have hj : j < k := by rw [← hf a]; exact (List.getElem?_eq_some_iff.1 hu).1
  rw [flat_get f k hf l i j hj, h]
  exact hu
theorem flat_one {l : List α} (hf : ∀ a, ∀ u ∈ f a, u.oneCell' = true) : ∀ u ∈ l.flatMap f, u.oneCell' = true := by
  intro u hu
  obtain ⟨a, _, ha⟩ := List.mem_flatMap.1 hu
  exact hf a u ha
theorem Sl.elem {w : World} {B : Nat} {A : Option Addr} {l : List α} (hs : Sl w B A (l.flatMap f)) (hf : ∀ a, (f a).length = k) (hk : 0 < k) {i : Nat} {a : α} (h : l[i]? = some a) :
    ∃ b off, A = some ⟨b, off, none⟩ ∧ b < B ∧ ∀ j u, (f a)[j]? = some u → w.cell? ⟨b, off + (i * k + j), none⟩ = some u := by
  have hi := (List.getElem?_eq_some_iff.1 h).1
  have hlt : i * k < (l.flatMap f).length := by
    rw [flat_len f k hf l]
    exact Nat.mul_lt_mul_of_pos_right hi hk
  obtain ⟨b, off, e, hb, hc⟩ := hs.at_ hlt
  exact ⟨b, off, e, hb, fun j u hu => hc _ u (flat_at hf h hu)⟩
end
theorem Own.fput {w : World} {base : Nat} {e : TypeId} {size g n c : Nat} {xs : List Value} (h : Own w base e size (some ⟨g, 0, none⟩) n c xs) (j : Nat) (u : Value) : Own (w.setCell ⟨g, j, none⟩ u) base e size (some ⟨g, 0, none⟩) n c (xs.set j u) := (World.ownsRow.stored (w := w) h j u).1
theorem Own.fcell {w : World} {base : Nat} {e : TypeId} {size g n c : Nat} {xs : List Value} (h : Own w base e size (some ⟨g, 0, none⟩) n c xs) (j : Nat) {u : Value} (hu : xs[j]? = some u) : w.cell? ⟨g, j, none⟩ = some u := by
  have hj : j < n * size := by
    have h1 := (List.getElem?_eq_some_iff.1 hu).1
    rw [h.1] at h1
    exact h1
  exact (World.ownsRow.cellAt (w := w) h j hj).trans hu
theorem Own.ffroz {w : World} {base : Nat} {e : TypeId} {size g n c : Nat} {xs : List Value} (h : Own w base e size (some ⟨g, 0, none⟩) n c xs) (j : Nat) : w.frozen? ⟨g, j, none⟩ = false := World.ownsRow.frozenAt (w := w) h j
theorem Own.some_of {w : World} {base : Nat} {e : TypeId} {size n c : Nat} {A : Option Addr} {xs : List Value} (h : Own w base e size A n c xs) (hn : n ≠ 0) : ∃ g, A = some ⟨g, 0, none⟩ := by
  cases A with
  | none =>
    rcases h.2 with ⟨_, h0⟩ | ⟨g, cap, cur, hv, _⟩
    · exact absurd h0 hn
    · injection hv with hA; cases hA
  | some a => exact ⟨a.block, by rw [← (h.blk a rfl).2.2]⟩
theorem made_flat {α : Type} {f : α → List Value} {k : Nat} (hf : ∀ a, (f a).length = k) (hk : 0 < k) (a : α) (zc : Array Value) (hz : zc.toList = f a) (n : Nat) : (madeCells zc (n * k)).toList = (List.replicate n a).flatMap f := by
  have hs : zc.size = k := by rw [← Array.length_toList, hz, hf]
  apply List.ext_getElem?
  intro i
  have e := flat_get f k hf (List.replicate n a) (i / k) (i % k) (Nat.mod_lt _ hk)
  rw [Nat.div_add_mod' i k] at e
  rw [e, Array.getElem?_toList]
  unfold madeCells
  rw [Array.getElem?_map]
  by_cases hi : i < n * k
  · have hik : i / k < n := Nat.div_lt_of_lt_mul (by rw [Nat.mul_comm]; exact hi)
    have hm : i % k < zc.size := by rw [hs]; exact Nat.mod_lt _ hk
    rw [List.getElem?_replicate, if_pos hik, Option.bind_some, ← hz, Array.getElem?_toList, Array.getElem?_eq_getElem hm]
    rw [Array.getElem?_eq_getElem (by simpa using hi)]
    simp [hs]
    rw [getElem!_pos zc (i % k) hm]
  · have hik : ¬ i / k < n := fun h => hi (by
      have h1 := Nat.div_add_mod' i k
      have h2 := Nat.mod_lt i hk
      have h3 : (i / k + 1) * k ≤ n * k := Nat.mul_le_mul_right k h
      rw [Nat.add_mul] at h3
      omega)
    rw [List.getElem?_replicate, if_neg hik, Array.getElem?_eq_none (by simpa using Nat.le_of_not_lt hi)]
    rfl
end Go.Proofs.Ytkhaodbcnnlhaaa
