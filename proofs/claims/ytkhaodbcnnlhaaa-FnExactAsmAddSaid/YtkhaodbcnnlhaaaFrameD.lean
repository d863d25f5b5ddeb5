/-
  Arguments that hold slices of parts, opened. No condition but the reading itself.
-/
import Derived.Test.YtkhaodbcnnlhaaaFrame2
import Derived.Test.YtkhaodbcnnlhaaaDat
namespace Go.Proofs.Ytkhaodbcnnlhaaa
open Go.ChangeShapes Go.WideShapes Go.ChangeAt Go.RowKit Go.Joins
set_option linter.unusedVariables false
theorem pick_lt {α : Type} {R : Nat → α → Prop} : ∀ n : Nat, (∀ i, i < n → ∃ x, R i x) → ∃ l : List α, l.length = n ∧ ∀ i x, l[i]? = some x → R i x
  | 0, _ => ⟨[], rfl, fun i x h => by simp at h⟩
  | n + 1, h => by
    obtain ⟨l, hl, hr⟩ := pick_lt n (fun i hi => h i (by omega))
    obtain ⟨x, hx⟩ := h n (by omega)
    refine ⟨l ++ [x], by simp [hl], fun i y hy => ?_⟩
    rcases Nat.lt_or_ge i l.length with hi | hi
    · rw [List.getElem?_append_left hi] at hy
      exact hr i y hy
    · rw [List.getElem?_append_right hi] at hy
      rcases Nat.eq_zero_or_pos (i - l.length) with h0 | h0
      · rw [h0] at hy
        have e : x = y := by simpa using hy
        have : i = n := by omega
        subst e
        rw [this]
        exact hx
      · obtain ⟨k, hk⟩ : ∃ k, i - l.length = k + 1 := ⟨i - l.length - 1, by omega⟩
        rw [hk] at hy
        simp at hy
section
variable {H : Type} {enc : TypeId × Value → H} {P : Program} {w : World} {base : Nat} {spare : Nat → Bool} {held : Bool}
/-- The seven cells of a part, read by their types. -/
theorem open_dat {e : TypeId} {f0 f1 f2 f3 f4 f5 f6 : Field} {fuel : Nat} {cs : List Value} {x : DataW H × List MemPlace} (he : P.underlying e = some (.struct #[f0, f1, f2, f3, f4, f5, f6]))
    (o0 : f0.offset = 0) (o1 : f1.offset = 1) (o2 : f2.offset = 2) (o3 : f3.offset = 3) (o4 : f4.offset = 4) (o5 : f5.offset = 5) (o6 : f6.offset = 6) (c0 : P.cellsOf f0.type = 1) (c1 : P.cellsOf f1.type = 1) (c2 : P.cellsOf f2.type = 1) (c3 : P.cellsOf f3.type = 1) (c4 : P.cellsOf f4.type = 1) (c5 : P.cellsOf f5.type = 1) (c6 : P.cellsOf f6.type = 1) (i0 : P.underlying f0.type = some (.int .i64)) (i1 : P.underlying f1.type = some (.int .i64)) (i2 : P.underlying f2.type = some (.int .i64)) (i3 : P.underlying f3.type = some .bool) (i4 : P.underlying f4.type = some .bool) (i5 : P.underlying f5.type = some .bool) (i6 : P.underlying f6.type = some .string)
    (h : DataW.trod enc P w base spare held fuel e cs = some x) (hlen : cs.length = 7) : ∃ d : Dat, cs = datC d ∧ datR d := by
  obtain ⟨xs, k, hk, hxy, _, hxl, hf⟩ := DataW.trod_struct he h
  match xs, hxl, cs, hlen with
  | [y0, y1, y2, y3, y4, y5, y6], _, [v0, v1, v2, v3, v4, v5, v6], _ =>
    have g0 := hf 0 f0 rfl
    have g1 := hf 1 f1 rfl
    have g2 := hf 2 f2 rfl
    have g3 := hf 3 f3 rfl
    have g4 := hf 4 f4 rfl
    have g5 := hf 5 f5 rfl
    have g6 := hf 6 f6 rfl
    simp [o0, c0, o1, c1, o2, c2, o3, c3, o4, c4, o5, c5, o6, c6] at g0 g1 g2 g3 g4 g5 g6
    obtain ⟨a0, ea0, _, w0⟩ := DataW.trod_int i0 g0
    injection ea0 with ea0 _
    subst ea0
    obtain ⟨a1, ea1, _, w1⟩ := DataW.trod_int i1 g1
    injection ea1 with ea1 _
    subst ea1
    obtain ⟨a2, ea2, _, w2⟩ := DataW.trod_int i2 g2
    injection ea2 with ea2 _
    subst ea2
    obtain ⟨a3, ea3, _⟩ := DataW.trod_bool i3 g3
    injection ea3 with ea3 _
    subst ea3
    obtain ⟨a4, ea4, _⟩ := DataW.trod_bool i4 g4
    injection ea4 with ea4 _
    subst ea4
    obtain ⟨a5, ea5, _⟩ := DataW.trod_bool i5 g5
    injection ea5 with ea5 _
    subst ea5
    obtain ⟨a6, ea6, _, w6⟩ := DataW.trod_string i6 g6
    injection ea6 with ea6 _
    subst ea6
    exact ⟨⟨a0, a1, a2, a3, a4, a5, a6⟩, rfl, wf_i64 w0, wf_i64 w1, wf_i64 w2, by unfold maxLen at w6; exact w6⟩
theorem open_dats {t e : TypeId} {f0 f1 f2 f3 f4 f5 f6 : Field} {fuel : Nat} {v : Value} {x : DataW H × List MemPlace} (ht : P.underlying t = some (.slice e)) (he : P.underlying e = some (.struct #[f0, f1, f2, f3, f4, f5, f6])) (ce : P.cellsOf e = 7)
    (o0 : f0.offset = 0) (o1 : f1.offset = 1) (o2 : f2.offset = 2) (o3 : f3.offset = 3) (o4 : f4.offset = 4) (o5 : f5.offset = 5) (o6 : f6.offset = 6) (c0 : P.cellsOf f0.type = 1) (c1 : P.cellsOf f1.type = 1) (c2 : P.cellsOf f2.type = 1) (c3 : P.cellsOf f3.type = 1) (c4 : P.cellsOf f4.type = 1) (c5 : P.cellsOf f5.type = 1) (c6 : P.cellsOf f6.type = 1) (i0 : P.underlying f0.type = some (.int .i64)) (i1 : P.underlying f1.type = some (.int .i64)) (i2 : P.underlying f2.type = some (.int .i64)) (i3 : P.underlying f3.type = some .bool) (i4 : P.underlying f4.type = some .bool) (i5 : P.underlying f5.type = some .bool) (i6 : P.underlying f6.type = some .string)
    (h : DataW.trod enc P w base spare held fuel t [v] = some x) :
    ∃ (A : Option Addr) (n c : Nat) (l : List Dat), v = .slice A n c ∧ l.length = n ∧ n ≤ c ∧ c ≤ maxLen ∧ Sl w w.heap.size A (dats l) ∧ Dats l := by
  rcases Go.Deep.open_slice ht h with ⟨hcs, _⟩ | ⟨a, len, cap, m, n, D, Pl, hcs, hb, hl, hm, hmm, _, hx⟩
  · injection hcs with hv _
    exact ⟨none, 0, 0, [], hv, rfl, Nat.le_refl _, by unfold maxLen; omega, Sl.nil _ _ _, fun p hp => by simp at hp⟩
  · injection hcs with hv _
    have hlm : len ≤ m := by rw [hmm]; split <;> omega
    obtain ⟨l, hll, hlr⟩ := pick_lt (R := fun i (d : Dat) => (∀ j u, (datC d)[j]? = some u → w.cell? (a.add (i * 7 + j)) = some u) ∧ datR d) len (fun i hi => by
      obtain ⟨cs', h1, h2⟩ := hx i (by omega)
      rw [ce] at h1
      obtain ⟨_, hlen, hcell⟩ := World.cells?_some h1
      obtain ⟨d, rfl, hd⟩ := open_dat he o0 o1 o2 o3 o4 o5 o6 c0 c1 c2 c3 c4 c5 c6 i0 i1 i2 i3 i4 i5 i6 h2 hlen
      refine ⟨d, fun j u hu => ?_, hd⟩
      have hj : j < 7 := by have := (List.getElem?_eq_some_iff.1 hu).1; rw [datC_len] at this; exact this
      have e0 := hcell j hj
      rw [Go.Deep.add_add] at e0
      rw [e0]
      exact hu)
    refine ⟨some a, len, cap, l, hv, hll, hl, hm, ?_, fun d hd => ?_⟩
    · intro j u hu
      have hj : j < l.length * 7 := by
        have h1 := (List.getElem?_eq_some_iff.1 hu).1
        rw [dats_len] at h1
        exact h1
      have hi : j / 7 < l.length := by omega
      obtain ⟨d, hd⟩ := fget_of_lt hi
      have hu2 := flat_get datC 7 datC_len l (j / 7) (j % 7) (Nat.mod_lt _ (by omega))
      rw [show j / 7 * 7 + j % 7 = j from by omega] at hu2
      change (dats l)[j]? = _ at hu2
      rw [hu, hd] at hu2
      have hg := (hlr _ _ hd).1 (j % 7) u (by simpa using hu2.symm)
      rw [show j / 7 * 7 + j % 7 = j from by omega] at hg
      obtain ⟨b, off, spot⟩ := a
      obtain ⟨d0, hd0⟩ := fget_of_lt (xs := l) (k := 0) (by omega)
      have hspot : spot = none := by simpa [Addr.add] using World.cell?_spot ((hlr 0 d0 hd0).1 0 _ rfl)
      subst hspot
      rw [Go.WideShapes.add_plain] at hg
      exact ⟨b, off, rfl, World.block_lt_of_cell? w _ hg, hg⟩
    · obtain ⟨i, hi, rfl⟩ := List.mem_iff_getElem.1 hd
      exact (hlr i _ (List.getElem?_eq_getElem hi)).2
end
end Go.Proofs.Ytkhaodbcnnlhaaa
