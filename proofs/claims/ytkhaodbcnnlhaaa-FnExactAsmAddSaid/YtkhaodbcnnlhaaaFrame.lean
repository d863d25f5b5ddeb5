/-
  Arguments opened: what a reading says of integers, bytes, slices of integers, and of a struct of a number and a slice. No condition but the reading itself.
-/
import Derived.Test.YtkhaodbcnnlhaaaRows
import Derived.Test.YtkhaodbcnnlhaaaBase
import Derived.ChangeOld
import Derived.Below
import Derived.Lib.SmallJoins
import Derived.Deep.Slices
namespace Go.Proofs.Ytkhaodbcnnlhaaa
open Go.ChangeShapes Go.WideShapes Go.ChangeAt Go.RowKit Go.Joins

theorem own : ownKnob Try.prog.godebug = none := by kernel_rfl
theorem laidOut : laidOutB Try.prog = true := by kernel_rfl

theorem wf_i64 {n : Int} (h : (Lit.int .i64 n).wf = true) : -9223372036854775808 ≤ n ∧ n ≤ 9223372036854775807 := by simpa [Lit.wf, IntKind.min, IntKind.max, IntKind.signed, IntKind.bits] using h
theorem wf_u8 {n : Int} (h : (Lit.int .u8 n).wf = true) : 0 ≤ n ∧ n ≤ 255 := by simpa [Lit.wf, IntKind.min, IntKind.max, IntKind.signed, IntKind.bits] using h

section
variable {H : Type} {enc : TypeId × Value → H} {P : Program} {w : World} {base : Nat} {spare : Nat → Bool} {held : Bool}
theorem sl_ints {k : IntKind} {x : Addr} {zs : List Int} {n : Nat} (hn : n ≤ zs.length) (hcell : ∀ i, i < zs.length → w.cell? (x.add i) = some (.int k (zs.getD i 0))) : Sl w w.heap.size (some x) ((zs.take n).map (Value.int k)) := by
  intro j u hu
  rw [List.getElem?_map, List.getElem?_take] at hu
  split at hu
  next hj =>
    have hj2 : j < zs.length := by omega
    obtain ⟨b, off, rfl, hc⟩ := ints_at hcell (by omega)
    have hcj := hc j hj2
    rw [List.getElem?_eq_getElem hj2] at hu
    have hu2 : Value.int k (zs.getD j 0) = u := by
      rw [List.getD_eq_getElem?_getD, List.getElem?_eq_getElem hj2]
      simpa using hu
    subst hu2
    exact ⟨b, off, rfl, World.block_lt_of_cell? w _ hcj, hcj⟩
  next => simp at hu
theorem open_row {t e : TypeId} {k : IntKind} {fuel : Nat} {v : Value} {x : DataW H × List MemPlace} (ht : P.underlying t = some (.slice e)) (he : P.underlying e = some (.int k)) (hc : P.cellsOf e = 1)
    (h : DataW.trod enc P w base spare held fuel t [v] = some x) :
    ∃ (A : Option Addr) (n c : Nat) (zs : List Int), v = .slice A n c ∧ zs.length = n ∧ n ≤ c ∧ c ≤ maxLen ∧ Sl w w.heap.size A (zs.map (Value.int k)) ∧ ∀ z ∈ zs, (Lit.int k z).wf = true := by
  rcases open_ints ht he hc h with ⟨hcs, _⟩ | ⟨a, len, cap, zs, hcs, _, hl, hm, hz, _, hcell, hwz⟩
  · injection hcs with hv _
    exact ⟨none, 0, 0, [], hv, rfl, Nat.le_refl _, by unfold maxLen; omega, Sl.nil _ _ _, fun z hz => by simp at hz⟩
  · injection hcs with hv _
    have hzl : len ≤ zs.length := by rw [hz]; split <;> omega
    exact ⟨some a, len, cap, zs.take len, hv, by rw [List.length_take]; omega, hl, hm, sl_ints hzl hcell, fun z hz => hwz z (List.mem_of_mem_take hz)⟩
end
end Go.Proofs.Ytkhaodbcnnlhaaa
