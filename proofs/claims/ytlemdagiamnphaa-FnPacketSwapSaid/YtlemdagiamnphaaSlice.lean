/-
  The tail of a slice from some place on: one value, whether something is left of its capacity or not. No condition but those that each theorem bears.
-/
import Derived.Test.YtlemdagiamnphaaRows
import Derived.Test.YtlemdagiamnphaaOwn
namespace Go.Proofs.Ytlemdagiamnphaa
open Go.ChangeShapes Go.WideShapes Go.ChangeAt Go.RowKit
set_option linter.unusedVariables false

theorem slice_tail {t e : TypeId} {i : TypeInfo} {K : Nat} (ht : Try.prog.underlying t = some (.slice e)) (hi : Try.prog.info? e = some i) (hK : i.size = K) (g n c : Nat) (l : Int) (h0 : 0 ≤ l) (h1 : l ≤ n) (w : World) :
    (Instr.slice t (.slice (some ⟨g, 0, none⟩) n c) (some (.int .i64 l)) none none).run Try.prog w = .ok (.slice (if c = l.toNat then some ⟨g, 0, none⟩ else some ⟨g, l.toNat * K, none⟩) (n - l.toNat) (c - l.toNat)) w := by
  have he : Try.prog.elem t = e := by simp [Program.elem, ht]
  rw [run_slice_l w t (some ⟨g, 0, none⟩) n c (by rw [he]; exact ht) .i64 l h0 h1, he]
  simp [sizeOf, typeInfo, hi, hK, sliced]
  by_cases hc : c = l.toNat
  · simp [hc]
  · have hadd : (⟨g, 0, none⟩ : Addr).add (l.toNat * K) = ⟨g, l.toNat * K, none⟩ := by unfold Addr.add; split <;> simp_all
    simp [hc, hadd]
/-- .. the address as a letter, of which it is known where it lies if there is an element. -/
theorem slice_tail_any {t e : TypeId} {i : TypeInfo} {K : Nat} (ht : Try.prog.underlying t = some (.slice e)) (hi : Try.prog.info? e = some i) (hK : i.size = K) (g n c : Nat) (hc : n ≤ c) (l : Int) (k : Nat) (hl : l = k) (h1 : k ≤ n) :
    ∃ A', (∀ w, (Instr.slice t (.slice (some ⟨g, 0, none⟩) n c) (some (.int .i64 l)) none none).run Try.prog w = .ok (.slice A' (n - k) (c - k)) w) ∧ (k < n → A' = some ⟨g, k * K, none⟩) := by
  subst hl
  refine ⟨if c = k then some ⟨g, 0, none⟩ else some ⟨g, k * K, none⟩, fun w => ?_, fun h => by rw [if_neg (by omega)]⟩
  have := slice_tail ht hi hK g n c (k : Int) (by omega) (by omega) w
  simpa using this
theorem slice_head {t e : TypeId} {i : TypeInfo} (ht : Try.prog.underlying t = some (.slice e)) (hi : Try.prog.info? e = some i) (g n c : Nat) (l : Int) (k : Nat) (hl : l = k) (h1 : k ≤ c) (w : World) :
    (Instr.slice t (.slice (some ⟨g, 0, none⟩) n c) none (some (.int .i64 l)) none).run Try.prog w = .ok (.slice (some ⟨g, 0, none⟩) k c) w := by
  subst hl
  have he : Try.prog.elem t = e := by simp [Program.elem, ht]
  rw [run_slice_h w t (some ⟨g, 0, none⟩) n c (by rw [he]; exact ht) .i64 (k : Int) (by omega) (by omega), he]
  have hadd : (⟨g, 0, none⟩ : Addr).add 0 = ⟨g, 0, none⟩ := by unfold Addr.add; rfl
  simp [sizeOf, typeInfo, hi, sliced, hadd]
theorem sl_tail {α : Type} {f : α → List Value} {K : Nat} {w : World} {B g : Nat} {A' : Option Addr} {xs : List α} {k : Nat} (hf : (xs.flatMap f).drop (k * K) = (xs.drop k).flatMap f) (h : Sl w B (some ⟨g, 0, none⟩) (xs.flatMap f)) (hA : k < xs.length → A' = some ⟨g, k * K, none⟩) : Sl w B A' ((xs.drop k).flatMap f) := by
  by_cases hk : k < xs.length
  · rw [← hf]
    refine h.drop (k * K) (fun b off e _ => ?_)
    injection e with e
    injection e with e1 e2
    subst e1 e2
    rw [hA hk, Nat.zero_add]
  · rw [List.drop_of_length_le (by omega)]
    exact Sl.nil _ _ _
end Go.Proofs.Ytlemdagiamnphaa
