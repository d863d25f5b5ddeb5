/-
  Arguments opened: slices of structs of two fields, read as lists of cells. No condition but the reading itself.
-/
import Derived.Test.YtkhaodbcnnlhaaaFrame
import Derived.Test.YtkhaodbcnnlhaaaFlat
import Derived.Deep.SlicePairs
namespace Go.Proofs.Ytkhaodbcnnlhaaa
open Go.ChangeShapes Go.WideShapes Go.ChangeAt Go.RowKit Go.Joins
set_option linter.unusedVariables false

theorem lift_flat {α β : Type} {F : α → List Value} {G : β → List Value} {Q : β → Prop} : ∀ ps : List α, (∀ p ∈ ps, ∃ g, F p = G g ∧ Q g) → ∃ gs : List β, gs.length = ps.length ∧ ps.flatMap F = gs.flatMap G ∧ ∀ g ∈ gs, Q g
  | [], _ => ⟨[], rfl, rfl, fun g h => by simp at h⟩
  | p :: ps, h => by
    obtain ⟨g, e, q⟩ := h p (by simp)
    obtain ⟨gs, hl, hf, hq⟩ := lift_flat ps (fun x hx => h x (by simp [hx]))
    refine ⟨g :: gs, by simp [hl], by simp [e, hf], fun x hx => ?_⟩
    rcases List.mem_cons.1 hx with rfl | hx
    · exact q
    · exact hq x hx
section
variable {H : Type} {enc : TypeId × Value → H} {P : Program} {w : World} {base : Nat} {spare : Nat → Bool} {held : Bool}
/-- A slice of structs of two cells: a list of pairs of values, each of which reads by its field's type. -/
theorem open_two {t e : TypeId} {f0 f1 : Field} {fuel : Nat} {v : Value} {x : DataW H × List MemPlace} (ht : P.underlying t = some (.slice e)) (he : P.underlying e = some (.struct #[f0, f1]))
    (ce : P.cellsOf e = 2) (o0 : f0.offset = 0) (o1 : f1.offset = 1) (c0 : P.cellsOf f0.type = 1) (c1 : P.cellsOf f1.type = 1) (h : DataW.trod enc P w base spare held fuel t [v] = some x) :
    ∃ (A : Option Addr) (n c : Nat) (ps : List (Value × Value)) (k : Nat), v = .slice A n c ∧ ps.length = n ∧ n ≤ c ∧ c ≤ maxLen ∧ Sl w w.heap.size A (ps.flatMap fun p => [p.1, p.2]) ∧
      ∀ p ∈ ps, (∃ y, DataW.trod enc P w base spare held k f0.type [p.1] = some y) ∧ ∃ y, DataW.trod enc P w base spare held k f1.type [p.2] = some y := by
  rcases Go.Deep.open_slice_pairs ht he ce o0 o1 c0 c1 h with ⟨hcs, _⟩ | ⟨a, len, cap, m, k, V0, V1, D0, D1, P0, P1, hcs, _, hl, hm, hmm, _, hx⟩
  · injection hcs with hv _
    exact ⟨none, 0, 0, [], 0, hv, rfl, Nat.le_refl _, by unfold maxLen; omega, Sl.nil _ _ _, fun p hp => by simp at hp⟩
  · injection hcs with hv _
    have hlm : len ≤ m := by rw [hmm]; split <;> omega
    have hget : ∀ i, i < len → ((List.range len).map fun i => (V0 i, V1 i))[i]? = some (V0 i, V1 i) := fun i hi => by rw [List.getElem?_map, List.getElem?_range hi]; rfl
    refine ⟨some a, len, cap, (List.range len).map fun i => (V0 i, V1 i), k, hv, by simp, hl, hm, ?_, fun p hp => ?_⟩
    · intro j u hu
      have hj : j < len * 2 := by
        have h1 := (List.getElem?_eq_some_iff.1 hu).1
        rw [flat_len (fun p : Value × Value => [p.1, p.2]) 2 (fun _ => rfl)] at h1
        simpa using h1
      have hi : j / 2 < len := by omega
      have hu2 := flat_get (fun p : Value × Value => [p.1, p.2]) 2 (fun _ => rfl) ((List.range len).map fun i => (V0 i, V1 i)) (j / 2) (j % 2) (Nat.mod_lt _ (by omega))
      rw [show j / 2 * 2 + j % 2 = j from by omega, hu, hget _ hi] at hu2
      obtain ⟨g0, g1, _, _⟩ := hx (j / 2) (by omega)
      obtain ⟨b, off, spot⟩ := a
      have hspot : spot = none := by simpa [Addr.add] using World.cell?_spot (hx 0 (by omega)).1
      subst hspot
      rw [Go.WideShapes.add_plain] at g0 g1
      refine ⟨b, off, rfl, World.block_lt_of_cell? w _ g0, ?_⟩
      rcases Nat.mod_two_eq_zero_or_one j with hm2 | hm2
      · rw [hm2] at hu2
        have e : u = V0 (j / 2) := by simpa using hu2
        rw [e, show j = j / 2 * 2 from by omega, show j / 2 * 2 / 2 = j / 2 from by omega]
        exact g0
      · rw [hm2] at hu2
        have e : u = V1 (j / 2) := by simpa using hu2
        have ej : off + j = off + (j / 2 * 2 + 1) := by omega
        rw [e, ej]
        exact g1
    · obtain ⟨i, hi, rfl⟩ := List.mem_map.1 hp
      obtain ⟨_, _, g2, g3⟩ := hx i (by have := List.mem_range.1 hi; omega)
      exact ⟨⟨_, g2⟩, ⟨_, g3⟩⟩
/-- .. both fields integers. -/
theorem open_int_pairs {t e : TypeId} {f0 f1 : Field} {fuel : Nat} {v : Value} {x : DataW H × List MemPlace} (ht : P.underlying t = some (.slice e)) (he : P.underlying e = some (.struct #[f0, f1]))
    (ce : P.cellsOf e = 2) (o0 : f0.offset = 0) (o1 : f1.offset = 1) (c0 : P.cellsOf f0.type = 1) (c1 : P.cellsOf f1.type = 1) (i0 : P.underlying f0.type = some (.int .i64)) (i1 : P.underlying f1.type = some (.int .i64))
    (h : DataW.trod enc P w base spare held fuel t [v] = some x) :
    ∃ (A : Option Addr) (n c : Nat) (gs : List (Int × Int)), v = .slice A n c ∧ gs.length = n ∧ n ≤ c ∧ c ≤ maxLen ∧ Sl w w.heap.size A (gs.flatMap fun g => [.int .i64 g.1, .int .i64 g.2]) ∧
      ∀ g ∈ gs, (Lit.int .i64 g.1).wf = true ∧ (Lit.int .i64 g.2).wf = true := by
  obtain ⟨A, n, c, ps, k, rfl, hn, hc, hm, hs, hp⟩ := open_two ht he ce o0 o1 c0 c1 h
  obtain ⟨gs, hl, hf, hq⟩ := lift_flat (F := fun p : Value × Value => [p.1, p.2]) (G := fun g : Int × Int => [Value.int .i64 g.1, .int .i64 g.2]) (Q := fun g => (Lit.int .i64 g.1).wf = true ∧ (Lit.int .i64 g.2).wf = true) ps (fun p hp' => by
    obtain ⟨⟨y0, h0⟩, ⟨y1, h1⟩⟩ := hp p hp'
    obtain ⟨a, ea, _, wa⟩ := DataW.trod_int i0 h0
    obtain ⟨b, eb, _, wb⟩ := DataW.trod_int i1 h1
    injection ea with ea _
    injection eb with eb _
    exact ⟨(a, b), by rw [ea, eb], wa, wb⟩)
  exact ⟨A, n, c, gs, rfl, by omega, hc, hm, by rw [← hf]; exact hs, hq⟩
end
end Go.Proofs.Ytkhaodbcnnlhaaa
