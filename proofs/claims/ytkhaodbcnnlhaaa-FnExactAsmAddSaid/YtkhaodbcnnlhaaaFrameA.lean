/-
  An argument that is a part, opened. No condition but the reading itself.
-/
import Derived.Test.YtkhaodbcnnlhaaaFrameD
namespace Go.Proofs.Ytkhaodbcnnlhaaa
open Go.ChangeShapes Go.WideShapes Go.ChangeAt Go.RowKit Go.Joins
set_option linter.unusedVariables false
def datV (d : Dat) : Value := .agg #[.int .i64 d.tsn, .int .i64 d.stream, .int .i64 d.ssn, .bool d.first, .bool d.last, .bool d.loose, .string d.text]
section
variable {H : Type} {enc : TypeId × Value → H} {P : Program} {w : World} {base : Nat} {spare : Nat → Bool} {held : Bool}
theorem open_data {e : TypeId} {f0 f1 f2 f3 f4 f5 f6 : Field} {r : Reach} {b0 : Nat} {v : Value} {d : DataW H} {p : List MemPlace} (he : P.underlying e = some (.struct #[f0, f1, f2, f3, f4, f5, f6])) (hC : P.cellsOf e = 7) (o0 : f0.offset = 0) (o1 : f1.offset = 1) (o2 : f2.offset = 2) (o3 : f3.offset = 3) (o4 : f4.offset = 4) (o5 : f5.offset = 5) (o6 : f6.offset = 6) (c0 : P.cellsOf f0.type = 1) (c1 : P.cellsOf f1.type = 1) (c2 : P.cellsOf f2.type = 1) (c3 : P.cellsOf f3.type = 1) (c4 : P.cellsOf f4.type = 1) (c5 : P.cellsOf f5.type = 1) (c6 : P.cellsOf f6.type = 1) (i0 : P.underlying f0.type = some (.int .i64)) (i1 : P.underlying f1.type = some (.int .i64)) (i2 : P.underlying f2.type = some (.int .i64)) (i3 : P.underlying f3.type = some .bool) (i4 : P.underlying f4.type = some .bool) (i5 : P.underlying f5.type = some .bool) (i6 : P.underlying f6.type = some .string)
    (hv : Value.okWide P w r b0 e v) (h : DataW.Trod enc P w base spare held e v d p) : ∃ d : Dat, v = datV d ∧ datR d := by
  obtain ⟨cs, rfl, hsz⟩ := okWide_struct he hv
  obtain ⟨fuel, hf⟩ := h
  obtain ⟨l0⟩ := cs
  obtain ⟨d, he0, h1⟩ := open_dat he o0 o1 o2 o3 o4 o5 o6 c0 c1 c2 c3 c4 c5 c6 i0 i1 i2 i3 i4 i5 i6 hf (by simpa [Value.cells] using hsz.trans hC)
  refine ⟨d, ?_, h1⟩
  change l0 = _ at he0
  subst he0
  rfl
end
end Go.Proofs.Ytkhaodbcnnlhaaa
