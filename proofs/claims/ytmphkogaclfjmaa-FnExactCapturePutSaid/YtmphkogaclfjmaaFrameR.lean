/-
  An argument that is a slice of records, opened. No condition but the reading itself.
-/
import Derived.Test.YtmphkogaclfjmaaFrame2
import Derived.Test.YtmphkogaclfjmaaCapV
namespace Go.Proofs.Ytmphkogaclfjmaa
open Go.ChangeShapes Go.WideShapes Go.ChangeAt Go.RowKit Go.Joins
set_option linter.unusedVariables false
section
variable {H : Type} {enc : TypeId × Value → H} {P : Program} {w : World} {base : Nat} {spare : Nat → Bool} {held : Bool}
theorem open_recs {t e : TypeId} {f0 f1 : Field} {fuel : Nat} {v : Value} {x : DataW H × List MemPlace} (ht : P.underlying t = some (.slice e)) (he : P.underlying e = some (.struct #[f0, f1]))
    (ce : P.cellsOf e = 2) (o0 : f0.offset = 0) (o1 : f1.offset = 1) (c0 : P.cellsOf f0.type = 1) (c1 : P.cellsOf f1.type = 1) (i0 : P.underlying f0.type = some (.int .i64)) (i1 : P.underlying f1.type = some .string)
    (h : DataW.trod enc P w base spare held fuel t [v] = some x) :
    ∃ (A : Option Addr) (n c : Nat) (l : List Rec), v = .slice A n c ∧ l.length = n ∧ n ≤ c ∧ c ≤ maxLen ∧ Sl w w.heap.size A (recs l) ∧ Txts l := by
  obtain ⟨A, n, c, ps, k, rfl, hn, hc, hm, hs, hp⟩ := open_two ht he ce o0 o1 c0 c1 h
  obtain ⟨gs, hl, hf, hq⟩ := lift_flat (F := fun p : Value × Value => [p.1, p.2]) (G := recC) (Q := fun r : Rec => r.2.size ≤ 9223372036854775807) ps (fun p hp' => by
    obtain ⟨⟨y0, h0⟩, ⟨y1, h1⟩⟩ := hp p hp'
    obtain ⟨a, ea, _, wa⟩ := DataW.trod_int i0 h0
    obtain ⟨s, eb, _, wb⟩ := DataW.trod_string i1 h1
    injection ea with ea _
    injection eb with eb _
    exact ⟨(a, s), by rw [ea, eb]; rfl, by unfold maxLen at wb; exact wb⟩)
  exact ⟨A, n, c, gs, rfl, by omega, hc, hm, by unfold recs; rw [← hf]; exact hs, hq⟩
end
end Go.Proofs.Ytmphkogaclfjmaa
