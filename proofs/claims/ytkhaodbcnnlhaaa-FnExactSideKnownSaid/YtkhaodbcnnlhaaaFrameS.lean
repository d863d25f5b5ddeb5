/-
  Arguments that are sides or associations, opened. No condition but the reading itself.
-/
import Derived.Test.YtkhaodbcnnlhaaaFrameD
namespace Go.Proofs.Ytkhaodbcnnlhaaa
open Go.ChangeShapes Go.WideShapes Go.ChangeAt Go.RowKit Go.Joins
set_option linter.unusedVariables false
section
variable {H : Type} {enc : TypeId × Value → H} {P : Program} {w : World} {base : Nat} {spare : Nat → Bool} {held : Bool}
/-- The five cells of a side. -/
theorem open_side_c {t e : TypeId} {s0 s1 s2 s3 s4 f0 f1 f2 f3 f4 f5 f6 : Field} {fuel : Nat} {cs : List Value} {x : DataW H × List MemPlace} (hs : P.underlying t = some (.struct #[s0, s1, s2, s3, s4])) (p0 : s0.offset = 0) (p1 : s1.offset = 1) (p2 : s2.offset = 2) (p3 : s3.offset = 3) (p4 : s4.offset = 4) (r0 : P.cellsOf s0.type = 1) (r1 : P.cellsOf s1.type = 1) (r2 : P.cellsOf s2.type = 1) (r3 : P.cellsOf s3.type = 1) (r4 : P.cellsOf s4.type = 1) (j0 : P.underlying s0.type = some (.int .i64)) (j1 : P.underlying s1.type = some (.int .i64)) (j2 : P.underlying s2.type = some (.int .i64)) (j3 : P.underlying s3.type = some (.slice e)) (j4 : P.underlying s4.type = some (.int .i64))
    (he : P.underlying e = some (.struct #[f0, f1, f2, f3, f4, f5, f6])) (ce : P.cellsOf e = 7) (o0 : f0.offset = 0) (o1 : f1.offset = 1) (o2 : f2.offset = 2) (o3 : f3.offset = 3) (o4 : f4.offset = 4) (o5 : f5.offset = 5) (o6 : f6.offset = 6) (c0 : P.cellsOf f0.type = 1) (c1 : P.cellsOf f1.type = 1) (c2 : P.cellsOf f2.type = 1) (c3 : P.cellsOf f3.type = 1) (c4 : P.cellsOf f4.type = 1) (c5 : P.cellsOf f5.type = 1) (c6 : P.cellsOf f6.type = 1) (i0 : P.underlying f0.type = some (.int .i64)) (i1 : P.underlying f1.type = some (.int .i64)) (i2 : P.underlying f2.type = some (.int .i64)) (i3 : P.underlying f3.type = some .bool) (i4 : P.underlying f4.type = some .bool) (i5 : P.underlying f5.type = some .bool) (i6 : P.underlying f6.type = some .string)
    (h : DataW.trod enc P w base spare held fuel t cs = some x) (hlen : cs.length = 5) :
    ∃ (tag st fi ac : Int) (A : Option Addr) (n c : Nat) (l : List Dat), cs = [.int .i64 tag, .int .i64 st, .int .i64 fi, .slice A n c, .int .i64 ac] ∧ l.length = n ∧ n ≤ c ∧ c ≤ maxLen ∧ Sl w w.heap.size A (dats l) ∧ Dats l := by
  obtain ⟨xs, k, hk, hxy, _, hxl, hf⟩ := DataW.trod_struct hs h
  match xs, hxl, cs, hlen with
  | [y0, y1, y2, y3, y4], _, [v0, v1, v2, v3, v4], _ =>
    have g0 := hf 0 s0 rfl
    have g1 := hf 1 s1 rfl
    have g2 := hf 2 s2 rfl
    have g3 := hf 3 s3 rfl
    have g4 := hf 4 s4 rfl
    simp [p0, p1, p2, p3, p4, r0, r1, r2, r3, r4] at g0 g1 g2 g3 g4
    obtain ⟨a0, ea0, _, _⟩ := DataW.trod_int j0 g0
    injection ea0 with ea0 _
    subst ea0
    obtain ⟨a1, ea1, _, _⟩ := DataW.trod_int j1 g1
    injection ea1 with ea1 _
    subst ea1
    obtain ⟨a2, ea2, _, _⟩ := DataW.trod_int j2 g2
    injection ea2 with ea2 _
    subst ea2
    obtain ⟨a4, ea4, _, _⟩ := DataW.trod_int j4 g4
    injection ea4 with ea4 _
    subst ea4
    obtain ⟨A, n, c, l, rfl, hl, hn, hc, hsl, hd⟩ := open_dats j3 he ce o0 o1 o2 o3 o4 o5 o6 c0 c1 c2 c3 c4 c5 c6 i0 i1 i2 i3 i4 i5 i6 g3
    exact ⟨a0, a1, a2, a4, A, n, c, l, rfl, hl, hn, hc, hsl, hd⟩
theorem open_side {t e : TypeId} {s0 s1 s2 s3 s4 f0 f1 f2 f3 f4 f5 f6 : Field} {r : Reach} {b0 : Nat} {v : Value} {d : DataW H} {p : List MemPlace} (hs : P.underlying t = some (.struct #[s0, s1, s2, s3, s4])) (hC : P.cellsOf t = 5) (p0 : s0.offset = 0) (p1 : s1.offset = 1) (p2 : s2.offset = 2) (p3 : s3.offset = 3) (p4 : s4.offset = 4) (r0 : P.cellsOf s0.type = 1) (r1 : P.cellsOf s1.type = 1) (r2 : P.cellsOf s2.type = 1) (r3 : P.cellsOf s3.type = 1) (r4 : P.cellsOf s4.type = 1) (j0 : P.underlying s0.type = some (.int .i64)) (j1 : P.underlying s1.type = some (.int .i64)) (j2 : P.underlying s2.type = some (.int .i64)) (j3 : P.underlying s3.type = some (.slice e)) (j4 : P.underlying s4.type = some (.int .i64))
    (he : P.underlying e = some (.struct #[f0, f1, f2, f3, f4, f5, f6])) (ce : P.cellsOf e = 7) (o0 : f0.offset = 0) (o1 : f1.offset = 1) (o2 : f2.offset = 2) (o3 : f3.offset = 3) (o4 : f4.offset = 4) (o5 : f5.offset = 5) (o6 : f6.offset = 6) (c0 : P.cellsOf f0.type = 1) (c1 : P.cellsOf f1.type = 1) (c2 : P.cellsOf f2.type = 1) (c3 : P.cellsOf f3.type = 1) (c4 : P.cellsOf f4.type = 1) (c5 : P.cellsOf f5.type = 1) (c6 : P.cellsOf f6.type = 1) (i0 : P.underlying f0.type = some (.int .i64)) (i1 : P.underlying f1.type = some (.int .i64)) (i2 : P.underlying f2.type = some (.int .i64)) (i3 : P.underlying f3.type = some .bool) (i4 : P.underlying f4.type = some .bool) (i5 : P.underlying f5.type = some .bool) (i6 : P.underlying f6.type = some .string)
    (hv : Value.okWide P w r b0 t v) (h : DataW.Trod enc P w base spare held t v d p) :
    ∃ (tag st fi ac : Int) (A : Option Addr) (n c : Nat) (l : List Dat), v = .agg #[.int .i64 tag, .int .i64 st, .int .i64 fi, .slice A n c, .int .i64 ac] ∧ l.length = n ∧ n ≤ c ∧ c ≤ maxLen ∧ Sl w w.heap.size A (dats l) ∧ Dats l := by
  obtain ⟨cs, rfl, hsz⟩ := okWide_struct hs hv
  obtain ⟨fuel, hf⟩ := h
  obtain ⟨l0⟩ := cs
  obtain ⟨tag, st, fi, ac, A, n, c, l, he0, h1⟩ := open_side_c hs p0 p1 p2 p3 p4 r0 r1 r2 r3 r4 j0 j1 j2 j3 j4 he ce o0 o1 o2 o3 o4 o5 o6 c0 c1 c2 c3 c4 c5 c6 i0 i1 i2 i3 i4 i5 i6 hf (by simpa [Value.cells] using hsz.trans hC)
  refine ⟨tag, st, fi, ac, A, n, c, l, ?_, h1⟩
  change l0 = _ at he0
  subst he0
  rfl
theorem open_assoc {t e : TypeId} {a0 a1 a2 a3 a4 a5 : Field} {s0 s1 s2 s3 s4 f0 f1 f2 f3 f4 f5 f6 : Field} {r : Reach} {b0 : Nat} {v : Value} {d : DataW H} {p : List MemPlace} (ha : P.underlying t = some (.struct #[a0, a1, a2, a3, a4, a5])) (hC : P.cellsOf t = 14)
    (q0 : a0.offset = 0) (q1 : a1.offset = 1) (q2 : a2.offset = 2) (q3 : a3.offset = 3) (q4 : a4.offset = 4) (q5 : a5.offset = 9) (k0 : P.cellsOf a0.type = 1) (k1 : P.cellsOf a1.type = 1) (k2 : P.cellsOf a2.type = 1) (k3 : P.cellsOf a3.type = 1) (k4 : P.cellsOf a4.type = 5) (k5 : P.cellsOf a5.type = 5)
    (u0 : P.underlying a0.type = some (.int .i64)) (u1 : P.underlying a1.type = some (.int .i64)) (u2 : P.underlying a2.type = some (.int .i64)) (u3 : P.underlying a3.type = some .bool) (u4 : P.underlying a4.type = some (.struct #[s0, s1, s2, s3, s4])) (u5 : P.underlying a5.type = some (.struct #[s0, s1, s2, s3, s4])) (p0 : s0.offset = 0) (p1 : s1.offset = 1) (p2 : s2.offset = 2) (p3 : s3.offset = 3) (p4 : s4.offset = 4) (r0 : P.cellsOf s0.type = 1) (r1 : P.cellsOf s1.type = 1) (r2 : P.cellsOf s2.type = 1) (r3 : P.cellsOf s3.type = 1) (r4 : P.cellsOf s4.type = 1) (j0 : P.underlying s0.type = some (.int .i64)) (j1 : P.underlying s1.type = some (.int .i64)) (j2 : P.underlying s2.type = some (.int .i64)) (j3 : P.underlying s3.type = some (.slice e)) (j4 : P.underlying s4.type = some (.int .i64))
    (he : P.underlying e = some (.struct #[f0, f1, f2, f3, f4, f5, f6])) (ce : P.cellsOf e = 7) (o0 : f0.offset = 0) (o1 : f1.offset = 1) (o2 : f2.offset = 2) (o3 : f3.offset = 3) (o4 : f4.offset = 4) (o5 : f5.offset = 5) (o6 : f6.offset = 6) (c0 : P.cellsOf f0.type = 1) (c1 : P.cellsOf f1.type = 1) (c2 : P.cellsOf f2.type = 1) (c3 : P.cellsOf f3.type = 1) (c4 : P.cellsOf f4.type = 1) (c5 : P.cellsOf f5.type = 1) (c6 : P.cellsOf f6.type = 1) (i0 : P.underlying f0.type = some (.int .i64)) (i1 : P.underlying f1.type = some (.int .i64)) (i2 : P.underlying f2.type = some (.int .i64)) (i3 : P.underlying f3.type = some .bool) (i4 : P.underlying f4.type = some .bool) (i5 : P.underlying f5.type = some .bool) (i6 : P.underlying f6.type = some .string)
    (hv : Value.okWide P w r b0 t v) (h : DataW.Trod enc P w base spare held t v d p) :
    ∃ (fr to' sta : Int) (by' : Bool) (tag st fi ac : Int) (A : Option Addr) (n c : Nat) (l : List Dat) (tag' st' fi' ac' : Int) (A' : Option Addr) (n' c' : Nat) (l' : List Dat),
      v = .agg #[.int .i64 fr, .int .i64 to', .int .i64 sta, .bool by', .int .i64 tag, .int .i64 st, .int .i64 fi, .slice A n c, .int .i64 ac, .int .i64 tag', .int .i64 st', .int .i64 fi', .slice A' n' c', .int .i64 ac'] ∧
      (l.length = n ∧ n ≤ c ∧ c ≤ maxLen ∧ Sl w w.heap.size A (dats l) ∧ Dats l) ∧ (l'.length = n' ∧ n' ≤ c' ∧ c' ≤ maxLen ∧ Sl w w.heap.size A' (dats l') ∧ Dats l') := by
  obtain ⟨cs, rfl, hsz⟩ := okWide_struct ha hv
  obtain ⟨fuel, hf0⟩ := h
  obtain ⟨l0⟩ := cs
  have hlen : l0.length = 14 := by simpa using hsz.trans hC
  obtain ⟨xs, k, hk, hxy, _, hxl, hf⟩ := DataW.trod_struct ha hf0
  match xs, hxl, l0, hlen with
  | [y0, y1, y2, y3, y4, y5], _, [v0, v1, v2, v3, v4, v5, v6, v7, v8, v9, v10, v11, v12, v13], _ =>
    have g0 := hf 0 a0 rfl
    have g1 := hf 1 a1 rfl
    have g2 := hf 2 a2 rfl
    have g3 := hf 3 a3 rfl
    have g4 := hf 4 a4 rfl
    have g5 := hf 5 a5 rfl
    simp [Value.cells, q0, q1, q2, q3, q4, q5, k0, k1, k2, k3, k4, k5] at g0 g1 g2 g3 g4 g5
    obtain ⟨z0, ez0, _, _⟩ := DataW.trod_int u0 g0
    injection ez0 with ez0 _
    subst ez0
    obtain ⟨z1, ez1, _, _⟩ := DataW.trod_int u1 g1
    injection ez1 with ez1 _
    subst ez1
    obtain ⟨z2, ez2, _, _⟩ := DataW.trod_int u2 g2
    injection ez2 with ez2 _
    subst ez2
    obtain ⟨z3, ez3, _⟩ := DataW.trod_bool u3 g3
    injection ez3 with ez3 _
    subst ez3
    obtain ⟨tag, st, fi, ac, A, n, c, l, he4, h4⟩ := open_side_c u4 p0 p1 p2 p3 p4 r0 r1 r2 r3 r4 j0 j1 j2 j3 j4 he ce o0 o1 o2 o3 o4 o5 o6 c0 c1 c2 c3 c4 c5 c6 i0 i1 i2 i3 i4 i5 i6 g4 rfl
    obtain ⟨tag', st', fi', ac', A', n', c', l', he5, h5⟩ := open_side_c u5 p0 p1 p2 p3 p4 r0 r1 r2 r3 r4 j0 j1 j2 j3 j4 he ce o0 o1 o2 o3 o4 o5 o6 c0 c1 c2 c3 c4 c5 c6 i0 i1 i2 i3 i4 i5 i6 g5 rfl
    simp only [List.cons.injEq, and_true] at he4 he5
    obtain ⟨rfl, rfl, rfl, rfl, rfl⟩ := he4
    obtain ⟨rfl, rfl, rfl, rfl, rfl⟩ := he5
    exact ⟨z0, z1, z2, z3, tag, st, fi, ac, A, n, c, l, tag', st', fi', ac', A', n', c', l', rfl, h4, h5⟩
end
end Go.Proofs.Ytkhaodbcnnlhaaa
