/-
  What the laws' helpers on associations return: sizes, copies, comparisons. Conditions: those that each theorem bears.
-/
import Derived.Test.YtgljbbdhhgamjaaSideL
namespace Go.Proofs.Ytgljbbdhhgamjaa
open Go.ChangeShapes Go.WideShapes Go.ChangeAt Go.RowKit
set_option linter.unusedVariables false
set_option linter.unusedSimpArgs false
def SzB (n m : Nat) (w : World) (e : Ending) (w' : World) : Prop := ∃ r : Int, e = .returned (.int .i64 r) ∧ (r = -1 ∨ (0 ≤ r ∧ n ≤ 1048576 ∧ m ≤ 1048576)) ∧ Below w.heap.size w w'
theorem sz_assoc (fr to' sta : Int) (by' : Bool) (tag st fi ac : Int) (A : Option Addr) (m c : Nat) (ps : List Dat) (tag' st' fi' ac' : Int) (A' : Option Addr) (m' c' : Nat) (ps' : List Dat) (w : World) (hp : Sl w w.heap.size A (dats ps)) (hm : ps.length = m) (hm2 : m ≤ 9223372036854775807) (ht : Dats ps) (hp' : Sl w w.heap.size A' (dats ps')) (hm' : ps'.length = m') (hm2' : m' ≤ 9223372036854775807) (ht' : Dats ps') :
    Calls Try.prog 40 #[.agg #[.int .i64 fr, .int .i64 to', .int .i64 sta, .bool by', .int .i64 tag, .int .i64 st, .int .i64 fi, .slice A m c, .int .i64 ac, .int .i64 tag', .int .i64 st', .int .i64 fi', .slice A' m' c', .int .i64 ac'], .int .i64 1048576] w (SzB m m' w) := by
  have HP := Lib.hid hp; have HM := Lib.hid hm; have HT := Lib.hid ht; have HP' := Lib.hid hp'; have HM' := Lib.hid hm'; have HT' := Lib.hid ht'; clear hp hm ht hp' hm' ht'
  go_enter Try.func40, Try.ntmps40
  go_wp2_with fail
  refine (sz_side _ _ _ _ _ _ _ ps _ _ (by omega) ((HP.out.alloc (Nat.le_refl _) _).more (by simp)) HM.out hm2 HT.out).mono ?_
  rintro e w1 ⟨r, rfl, hr, b1'⟩
  obtain ⟨q1, z1, b1⟩ := boxed b1'
  have X1 := Lib.hid q1
  have B1 := Lib.hid b1
  clear b1' q1 b1
  have x0 : w1.cell? ⟨w.heap.size, 0, none⟩ = some (.int .i64 fr) := X1.out.get 0 rfl
  have x1 : w1.cell? ⟨w.heap.size, 1, none⟩ = some (.int .i64 to') := X1.out.get 1 rfl
  have x2 : w1.cell? ⟨w.heap.size, 2, none⟩ = some (.int .i64 sta) := X1.out.get 2 rfl
  have x3 : w1.cell? ⟨w.heap.size, 3, none⟩ = some (.bool by') := X1.out.get 3 rfl
  have x4 : w1.cell? ⟨w.heap.size, 4, none⟩ = some (.int .i64 tag) := X1.out.get 4 rfl
  have x5 : w1.cell? ⟨w.heap.size, 5, none⟩ = some (.int .i64 st) := X1.out.get 5 rfl
  have x6 : w1.cell? ⟨w.heap.size, 6, none⟩ = some (.int .i64 fi) := X1.out.get 6 rfl
  have x7 : w1.cell? ⟨w.heap.size, 7, none⟩ = some (.slice A m c) := X1.out.get 7 rfl
  have x8 : w1.cell? ⟨w.heap.size, 8, none⟩ = some (.int .i64 ac) := X1.out.get 8 rfl
  have x9 : w1.cell? ⟨w.heap.size, 9, none⟩ = some (.int .i64 tag') := X1.out.get 9 rfl
  have x10 : w1.cell? ⟨w.heap.size, 10, none⟩ = some (.int .i64 st') := X1.out.get 10 rfl
  have x11 : w1.cell? ⟨w.heap.size, 11, none⟩ = some (.int .i64 fi') := X1.out.get 11 rfl
  have x12 : w1.cell? ⟨w.heap.size, 12, none⟩ = some (.slice A' m' c') := X1.out.get 12 rfl
  have x13 : w1.cell? ⟨w.heap.size, 13, none⟩ = some (.int .i64 ac') := X1.out.get 13 rfl
  rcases hr with rfl | ⟨r1, r2, r3⟩
  · go_wp2
    go_ret
    exact ⟨_, rfl, .inl rfl, B1.out⟩
  · have hr0 : ¬ r < 0 := by omega
    go_wp2_with fail
    refine (sz_side _ _ _ _ _ _ _ ps' _ _ ⟨r1, r2⟩ ((HP'.out.below B1.out (Nat.le_refl _)).more B1.out.size) HM'.out hm2' HT'.out).mono ?_
    rintro e w2 ⟨r', rfl, hr', b2⟩
    have B2 := Lib.hid (bstep B1.out b2 B1.out.size)
    clear b2
    rcases hr' with rfl | ⟨r1', r2', r3'⟩
    · go_wp2
      go_ret
      exact ⟨_, rfl, .inl rfl, B2.out⟩
    · have hr0' : ¬ r' < 0 := by omega
      go_wp2
      go_ret
      exact ⟨_, rfl, .inr ⟨r1', r3, r3'⟩, B2.out⟩
def MadeAssoc (fr to' sta : Int) (by' : Bool) (tag st fi ac : Int) (ps : List Dat) (m : Nat) (tag' st' fi' ac' : Int) (ps' : List Dat) (m' : Nat) (w : World) (e : Ending) (w' : World) : Prop :=
  ∃ A c A' c', e = .returned (.agg #[.int .i64 fr, .int .i64 to', .int .i64 sta, .bool by', .int .i64 tag, .int .i64 st, .int .i64 fi, .slice A m c, .int .i64 ac, .int .i64 tag', .int .i64 st', .int .i64 fi', .slice A' m' c', .int .i64 ac']) ∧ Own w' w.heap.size 52 7 A m c (dats ps) ∧ Own w' w.heap.size 52 7 A' m' c' (dats ps') ∧ Below w.heap.size w w'
set_option maxHeartbeats 6400000 in
theorem to_assoc (fr to' sta : Int) (by' : Bool) (tag st fi ac : Int) (A : Option Addr) (m c : Nat) (ps : List Dat) (tag' st' fi' ac' : Int) (A' : Option Addr) (m' c' : Nat) (ps' : List Dat) (w : World) (hp : Sl w w.heap.size A (dats ps)) (hm : ps.length = m) (hm2 : m ≤ 1048576) (hp' : Sl w w.heap.size A' (dats ps')) (hm' : ps'.length = m') (hm2' : m' ≤ 1048576) :
    Calls Try.prog 42 #[.agg #[.int .i64 fr, .int .i64 to', .int .i64 sta, .bool by', .int .i64 tag, .int .i64 st, .int .i64 fi, .slice A m c, .int .i64 ac, .int .i64 tag', .int .i64 st', .int .i64 fi', .slice A' m' c', .int .i64 ac']] w (MadeAssoc fr to' sta by' tag st fi ac ps m tag' st' fi' ac' ps' m' w) := by
  have HP := Lib.hid hp; have HM := Lib.hid hm; have HP' := Lib.hid hp'; have HM' := Lib.hid hm'; clear hp hm hp' hm'
  go_enter Try.func42, Try.ntmps42
  go_wp2_with fail
  refine (to_side _ _ _ _ _ _ _ ps _ ((((HP.out.alloc (Nat.le_refl _) _).alloc (by simp) _).alloc (by simp; omega) _).more (by simp; omega)) HM.out hm2).mono ?_
  rintro e w1 ⟨A1, c1, rfl, o1, b1'⟩
  obtain ⟨q1, q2, q3, z1, b1⟩ := boxed3 b1'
  have Q1 := Lib.hid q1
  have Q2 := Lib.hid q2
  have Q3 := Lib.hid q3
  have B1 := Lib.hid b1
  simp only [World.size_alloc] at o1
  have O1 := Lib.hid o1
  clear o1 b1 b1' q1 q2 q3
  have x0 : w1.cell? ⟨w.heap.size, 0, none⟩ = some (.int .i64 fr) := Q1.out.get 0 rfl
  have x1 : w1.cell? ⟨w.heap.size, 1, none⟩ = some (.int .i64 to') := Q1.out.get 1 rfl
  have x2 : w1.cell? ⟨w.heap.size, 2, none⟩ = some (.int .i64 sta) := Q1.out.get 2 rfl
  have x3 : w1.cell? ⟨w.heap.size, 3, none⟩ = some (.bool by') := Q1.out.get 3 rfl
  have x4 : w1.cell? ⟨w.heap.size, 4, none⟩ = some (.int .i64 tag) := Q1.out.get 4 rfl
  have x5 : w1.cell? ⟨w.heap.size, 5, none⟩ = some (.int .i64 st) := Q1.out.get 5 rfl
  have x6 : w1.cell? ⟨w.heap.size, 6, none⟩ = some (.int .i64 fi) := Q1.out.get 6 rfl
  have x7 : w1.cell? ⟨w.heap.size, 7, none⟩ = some (.slice A m c) := Q1.out.get 7 rfl
  have x8 : w1.cell? ⟨w.heap.size, 8, none⟩ = some (.int .i64 ac) := Q1.out.get 8 rfl
  have x9 : w1.cell? ⟨w.heap.size, 9, none⟩ = some (.int .i64 tag') := Q1.out.get 9 rfl
  have x10 : w1.cell? ⟨w.heap.size, 10, none⟩ = some (.int .i64 st') := Q1.out.get 10 rfl
  have x11 : w1.cell? ⟨w.heap.size, 11, none⟩ = some (.int .i64 fi') := Q1.out.get 11 rfl
  have x12 : w1.cell? ⟨w.heap.size, 12, none⟩ = some (.slice A' m' c') := Q1.out.get 12 rfl
  have x13 : w1.cell? ⟨w.heap.size, 13, none⟩ = some (.int .i64 ac') := Q1.out.get 13 rfl
  have y0 : w1.cell? ⟨w.heap.size + 2, 0, none⟩ = some (.int .i64 fr) := Q3.out.get 0 rfl
  have y1 : w1.cell? ⟨w.heap.size + 2, 1, none⟩ = some (.int .i64 to') := Q3.out.get 1 rfl
  have y2 : w1.cell? ⟨w.heap.size + 2, 2, none⟩ = some (.int .i64 sta) := Q3.out.get 2 rfl
  have y3 : w1.cell? ⟨w.heap.size + 2, 3, none⟩ = some (.bool by') := Q3.out.get 3 rfl
  have y4 : w1.cell? ⟨w.heap.size + 2, 4, none⟩ = some (.int .i64 0) := Q3.out.get 4 rfl
  have y5 : w1.cell? ⟨w.heap.size + 2, 5, none⟩ = some (.int .i64 0) := Q3.out.get 5 rfl
  have y6 : w1.cell? ⟨w.heap.size + 2, 6, none⟩ = some (.int .i64 0) := Q3.out.get 6 rfl
  have y7 : w1.cell? ⟨w.heap.size + 2, 7, none⟩ = some (.slice none 0 0) := Q3.out.get 7 rfl
  have y8 : w1.cell? ⟨w.heap.size + 2, 8, none⟩ = some (.int .i64 0) := Q3.out.get 8 rfl
  have y9 : w1.cell? ⟨w.heap.size + 2, 9, none⟩ = some (.int .i64 0) := Q3.out.get 9 rfl
  have y10 : w1.cell? ⟨w.heap.size + 2, 10, none⟩ = some (.int .i64 0) := Q3.out.get 10 rfl
  have y11 : w1.cell? ⟨w.heap.size + 2, 11, none⟩ = some (.int .i64 0) := Q3.out.get 11 rfl
  have y12 : w1.cell? ⟨w.heap.size + 2, 12, none⟩ = some (.slice none 0 0) := Q3.out.get 12 rfl
  have y13 : w1.cell? ⟨w.heap.size + 2, 13, none⟩ = some (.int .i64 0) := Q3.out.get 13 rfl
  have g0 := Q3.out.frozen 0
  have g1 := Q3.out.frozen 1
  have g2 := Q3.out.frozen 2
  have g3 := Q3.out.frozen 3
  have g4 := Q3.out.frozen 4
  have g5 := Q3.out.frozen 5
  have g6 := Q3.out.frozen 6
  have g7 := Q3.out.frozen 7
  have g8 := Q3.out.frozen 8
  have g9 := Q3.out.frozen 9
  have g10 := Q3.out.frozen 10
  have g11 := Q3.out.frozen 11
  have g12 := Q3.out.frozen 12
  have g13 := Q3.out.frozen 13
  have hl3 : w.heap.size + 2 < w1.heap.size := Q3.out.lt
  go_wp2_with fail
  refine (to_side _ _ _ _ _ _ _ ps' _ (((((((HP'.out.below B1.out (Nat.le_refl _)).setCell (p := ⟨w.heap.size + 2, 4, none⟩) (by show w.heap.size ≤ w.heap.size + 2; omega) (.int .i64 tag)).setCell (p := ⟨w.heap.size + 2, 5, none⟩) (by show w.heap.size ≤ w.heap.size + 2; omega) (.int .i64 st)).setCell (p := ⟨w.heap.size + 2, 6, none⟩) (by show w.heap.size ≤ w.heap.size + 2; omega) (.int .i64 fi)).setCell (p := ⟨w.heap.size + 2, 7, none⟩) (by show w.heap.size ≤ w.heap.size + 2; omega) (.slice A1 m c1)).setCell (p := ⟨w.heap.size + 2, 8, none⟩) (by show w.heap.size ≤ w.heap.size + 2; omega) (.int .i64 ac)).more (by simp; omega)) HM'.out hm2').mono ?_
  rintro e w2 ⟨A2, c2, rfl, o2, b2⟩
  simp only [World.size_setCell] at o2 b2
  have Q3' := Lib.hid ((((((Q3.out.set_ 4 (.int .i64 tag)).set_ 5 (.int .i64 st)).set_ 6 (.int .i64 fi)).set_ 7 (.slice A1 m c1)).set_ 8 (.int .i64 ac)).below b2 (by omega))
  have Q2' := Lib.hid ((((((Q2.out.far (p := ⟨w.heap.size + 2, 4, none⟩) (by show w.heap.size + 1 ≠ w.heap.size + 2; omega) (.int .i64 tag)).far (p := ⟨w.heap.size + 2, 5, none⟩) (by show w.heap.size + 1 ≠ w.heap.size + 2; omega) (.int .i64 st)).far (p := ⟨w.heap.size + 2, 6, none⟩) (by show w.heap.size + 1 ≠ w.heap.size + 2; omega) (.int .i64 fi)).far (p := ⟨w.heap.size + 2, 7, none⟩) (by show w.heap.size + 1 ≠ w.heap.size + 2; omega) (.slice A1 m c1)).far (p := ⟨w.heap.size + 2, 8, none⟩) (by show w.heap.size + 1 ≠ w.heap.size + 2; omega) (.int .i64 ac)).below b2 (by omega))
  have O1' := Lib.hid ((((((O1.out.setLow (p := ⟨w.heap.size + 2, 4, none⟩) (by show w.heap.size + 2 < w.heap.size + 3; omega) (.int .i64 tag)).setLow (p := ⟨w.heap.size + 2, 5, none⟩) (by show w.heap.size + 2 < w.heap.size + 3; omega) (.int .i64 st)).setLow (p := ⟨w.heap.size + 2, 6, none⟩) (by show w.heap.size + 2 < w.heap.size + 3; omega) (.int .i64 fi)).setLow (p := ⟨w.heap.size + 2, 7, none⟩) (by show w.heap.size + 2 < w.heap.size + 3; omega) (.slice A1 m c1)).setLow (p := ⟨w.heap.size + 2, 8, none⟩) (by show w.heap.size + 2 < w.heap.size + 3; omega) (.int .i64 ac)).below b2 (by simp))
  have B2 := Lib.hid (bstep (((((B1.out.setCell (p := ⟨w.heap.size + 2, 4, none⟩) (by show w.heap.size ≤ w.heap.size + 2; omega) (.int .i64 tag)).setCell (p := ⟨w.heap.size + 2, 5, none⟩) (by show w.heap.size ≤ w.heap.size + 2; omega) (.int .i64 st)).setCell (p := ⟨w.heap.size + 2, 6, none⟩) (by show w.heap.size ≤ w.heap.size + 2; omega) (.int .i64 fi)).setCell (p := ⟨w.heap.size + 2, 7, none⟩) (by show w.heap.size ≤ w.heap.size + 2; omega) (.slice A1 m c1)).setCell (p := ⟨w.heap.size + 2, 8, none⟩) (by show w.heap.size ≤ w.heap.size + 2; omega) (.int .i64 ac)) b2 (by omega))
  have O2 := Lib.hid o2
  have hszp := b2.size
  simp only [World.size_setCell] at hszp
  clear o2 b2 x0 x1 x2 x3 x4 x5 x6 x7 x8 x9 x10 x11 x12 x13 y0 y1 y2 y3 y4 y5 y6 y7 y8 y9 y10 y11 y12 y13 g0 g1 g2 g3 g4 g5 g6 g7 g8 g9 g10 g11 g12 g13
  have y0 : w2.cell? ⟨w.heap.size + 2, 0, none⟩ = some (.int .i64 fr) := Q3'.out.get 0 rfl
  have y1 : w2.cell? ⟨w.heap.size + 2, 1, none⟩ = some (.int .i64 to') := Q3'.out.get 1 rfl
  have y2 : w2.cell? ⟨w.heap.size + 2, 2, none⟩ = some (.int .i64 sta) := Q3'.out.get 2 rfl
  have y3 : w2.cell? ⟨w.heap.size + 2, 3, none⟩ = some (.bool by') := Q3'.out.get 3 rfl
  have y4 : w2.cell? ⟨w.heap.size + 2, 4, none⟩ = some (.int .i64 tag) := Q3'.out.get 4 rfl
  have y5 : w2.cell? ⟨w.heap.size + 2, 5, none⟩ = some (.int .i64 st) := Q3'.out.get 5 rfl
  have y6 : w2.cell? ⟨w.heap.size + 2, 6, none⟩ = some (.int .i64 fi) := Q3'.out.get 6 rfl
  have y7 : w2.cell? ⟨w.heap.size + 2, 7, none⟩ = some (.slice A1 m c1) := Q3'.out.get 7 rfl
  have y8 : w2.cell? ⟨w.heap.size + 2, 8, none⟩ = some (.int .i64 ac) := Q3'.out.get 8 rfl
  have y9 : w2.cell? ⟨w.heap.size + 2, 9, none⟩ = some (.int .i64 0) := Q3'.out.get 9 rfl
  have y10 : w2.cell? ⟨w.heap.size + 2, 10, none⟩ = some (.int .i64 0) := Q3'.out.get 10 rfl
  have y11 : w2.cell? ⟨w.heap.size + 2, 11, none⟩ = some (.int .i64 0) := Q3'.out.get 11 rfl
  have y12 : w2.cell? ⟨w.heap.size + 2, 12, none⟩ = some (.slice none 0 0) := Q3'.out.get 12 rfl
  have y13 : w2.cell? ⟨w.heap.size + 2, 13, none⟩ = some (.int .i64 0) := Q3'.out.get 13 rfl
  have z0 : w2.cell? ⟨w.heap.size + 1, 0, none⟩ = some (.int .i64 0) := Q2'.out.get 0 rfl
  have z1 : w2.cell? ⟨w.heap.size + 1, 1, none⟩ = some (.int .i64 0) := Q2'.out.get 1 rfl
  have z2 : w2.cell? ⟨w.heap.size + 1, 2, none⟩ = some (.int .i64 0) := Q2'.out.get 2 rfl
  have z3 : w2.cell? ⟨w.heap.size + 1, 3, none⟩ = some (.bool false) := Q2'.out.get 3 rfl
  have z4 : w2.cell? ⟨w.heap.size + 1, 4, none⟩ = some (.int .i64 0) := Q2'.out.get 4 rfl
  have z5 : w2.cell? ⟨w.heap.size + 1, 5, none⟩ = some (.int .i64 0) := Q2'.out.get 5 rfl
  have z6 : w2.cell? ⟨w.heap.size + 1, 6, none⟩ = some (.int .i64 0) := Q2'.out.get 6 rfl
  have z7 : w2.cell? ⟨w.heap.size + 1, 7, none⟩ = some (.slice none 0 0) := Q2'.out.get 7 rfl
  have z8 : w2.cell? ⟨w.heap.size + 1, 8, none⟩ = some (.int .i64 0) := Q2'.out.get 8 rfl
  have z9 : w2.cell? ⟨w.heap.size + 1, 9, none⟩ = some (.int .i64 0) := Q2'.out.get 9 rfl
  have z10 : w2.cell? ⟨w.heap.size + 1, 10, none⟩ = some (.int .i64 0) := Q2'.out.get 10 rfl
  have z11 : w2.cell? ⟨w.heap.size + 1, 11, none⟩ = some (.int .i64 0) := Q2'.out.get 11 rfl
  have z12 : w2.cell? ⟨w.heap.size + 1, 12, none⟩ = some (.slice none 0 0) := Q2'.out.get 12 rfl
  have z13 : w2.cell? ⟨w.heap.size + 1, 13, none⟩ = some (.int .i64 0) := Q2'.out.get 13 rfl
  have g0 := Q3'.out.frozen 0
  have g1 := Q3'.out.frozen 1
  have g2 := Q3'.out.frozen 2
  have g3 := Q3'.out.frozen 3
  have g4 := Q3'.out.frozen 4
  have g5 := Q3'.out.frozen 5
  have g6 := Q3'.out.frozen 6
  have g7 := Q3'.out.frozen 7
  have g8 := Q3'.out.frozen 8
  have g9 := Q3'.out.frozen 9
  have g10 := Q3'.out.frozen 10
  have g11 := Q3'.out.frozen 11
  have g12 := Q3'.out.frozen 12
  have g13 := Q3'.out.frozen 13
  have f0 := Q2'.out.frozen 0
  have f1 := Q2'.out.frozen 1
  have f2 := Q2'.out.frozen 2
  have f3 := Q2'.out.frozen 3
  have f4 := Q2'.out.frozen 4
  have f5 := Q2'.out.frozen 5
  have f6 := Q2'.out.frozen 6
  have f7 := Q2'.out.frozen 7
  have f8 := Q2'.out.frozen 8
  have f9 := Q2'.out.frozen 9
  have f10 := Q2'.out.frozen 10
  have f11 := Q2'.out.frozen 11
  have f12 := Q2'.out.frozen 12
  have f13 := Q2'.out.frozen 13
  have hl3' : w.heap.size + 2 < w2.heap.size := Q3'.out.lt
  go_wp2
  refine bodyPost_ret (v := .agg #[.int .i64 fr, .int .i64 to', .int .i64 sta, .bool by', .int .i64 tag, .int .i64 st, .int .i64 fi, .slice A1 m c1, .int .i64 ac, .int .i64 tag', .int .i64 st', .int .i64 fi', .slice A2 m' c2, .int .i64 ac']) (by simp [results, Try.results42, go_sem, z0, z1, z2, z3, z4, z5, z6, z7, z8, z9, z10, z11, z12, z13]) rfl ?_
  have h1 := O1'.out
  have h2 := O2.out
  exact ⟨_, _, _, _, rfl, (((((((((((((((((((h1.setLow (by first | (simp; done) | (simp; omega)) _).setLow (by first | (simp; done) | (simp; omega)) _).setLow (by first | (simp; done) | (simp; omega)) _).setLow (by first | (simp; done) | (simp; omega)) _).setLow (by first | (simp; done) | (simp; omega)) _).setLow (by first | (simp; done) | (simp; omega)) _).setLow (by first | (simp; done) | (simp; omega)) _).setLow (by first | (simp; done) | (simp; omega)) _).setLow (by first | (simp; done) | (simp; omega)) _).setLow (by first | (simp; done) | (simp; omega)) _).setLow (by first | (simp; done) | (simp; omega)) _).setLow (by first | (simp; done) | (simp; omega)) _).setLow (by first | (simp; done) | (simp; omega)) _).setLow (by first | (simp; done) | (simp; omega)) _).setLow (by first | (simp; done) | (simp; omega)) _).setLow (by first | (simp; done) | (simp; omega)) _).setLow (by first | (simp; done) | (simp; omega)) _).setLow (by first | (simp; done) | (simp; omega)) _).setLow (by first | (simp; done) | (simp; omega)) _).lower (by omega), (((((((((((((((((((h2.setLow (by first | (simp; done) | (simp; omega)) _).setLow (by first | (simp; done) | (simp; omega)) _).setLow (by first | (simp; done) | (simp; omega)) _).setLow (by first | (simp; done) | (simp; omega)) _).setLow (by first | (simp; done) | (simp; omega)) _).setLow (by first | (simp; done) | (simp; omega)) _).setLow (by first | (simp; done) | (simp; omega)) _).setLow (by first | (simp; done) | (simp; omega)) _).setLow (by first | (simp; done) | (simp; omega)) _).setLow (by first | (simp; done) | (simp; omega)) _).setLow (by first | (simp; done) | (simp; omega)) _).setLow (by first | (simp; done) | (simp; omega)) _).setLow (by first | (simp; done) | (simp; omega)) _).setLow (by first | (simp; done) | (simp; omega)) _).setLow (by first | (simp; done) | (simp; omega)) _).setLow (by first | (simp; done) | (simp; omega)) _).setLow (by first | (simp; done) | (simp; omega)) _).setLow (by first | (simp; done) | (simp; omega)) _).setLow (by first | (simp; done) | (simp; omega)) _).lower (by omega), (((((((((((((((((((B2.out.setCell (by first | (simp; done) | (simp; omega)) _).setCell (by first | (simp; done) | (simp; omega)) _).setCell (by first | (simp; done) | (simp; omega)) _).setCell (by first | (simp; done) | (simp; omega)) _).setCell (by first | (simp; done) | (simp; omega)) _).setCell (by first | (simp; done) | (simp; omega)) _).setCell (by first | (simp; done) | (simp; omega)) _).setCell (by first | (simp; done) | (simp; omega)) _).setCell (by first | (simp; done) | (simp; omega)) _).setCell (by first | (simp; done) | (simp; omega)) _).setCell (by first | (simp; done) | (simp; omega)) _).setCell (by first | (simp; done) | (simp; omega)) _).setCell (by first | (simp; done) | (simp; omega)) _).setCell (by first | (simp; done) | (simp; omega)) _).setCell (by first | (simp; done) | (simp; omega)) _).setCell (by first | (simp; done) | (simp; omega)) _).setCell (by first | (simp; done) | (simp; omega)) _).setCell (by first | (simp; done) | (simp; omega)) _).setCell (by first | (simp; done) | (simp; omega)) _)⟩
set_option maxHeartbeats 1600000 in
theorem eq_assoc (fr to' sta : Int) (by' : Bool) (tag st fi ac : Int) (A : Option Addr) (m c : Nat) (ps : List Dat) (tag' st' fi' ac' : Int) (A' : Option Addr) (m' c' : Nat) (ps' : List Dat) (B : Option Addr) (d : Nat) (B' : Option Addr) (d' : Nat) (w : World)
    (hA : Sl w w.heap.size A (dats ps)) (hB : Sl w w.heap.size B (dats ps)) (hm : ps.length = m) (hm2 : m ≤ 9223372036854775807) (hA' : Sl w w.heap.size A' (dats ps')) (hB' : Sl w w.heap.size B' (dats ps')) (hm' : ps'.length = m') (hm2' : m' ≤ 9223372036854775807) :
    Calls Try.prog 44 #[.agg #[.int .i64 fr, .int .i64 to', .int .i64 sta, .bool by', .int .i64 tag, .int .i64 st, .int .i64 fi, .slice A m c, .int .i64 ac, .int .i64 tag', .int .i64 st', .int .i64 fi', .slice A' m' c', .int .i64 ac'], .agg #[.int .i64 fr, .int .i64 to', .int .i64 sta, .bool by', .int .i64 tag, .int .i64 st, .int .i64 fi, .slice B m d, .int .i64 ac, .int .i64 tag', .int .i64 st', .int .i64 fi', .slice B' m' d', .int .i64 ac']] w fun e w' => e = .returned (.bool true) ∧ Below w.heap.size w w' := by
  have HA := Lib.hid hA; have HB := Lib.hid hB; have HM := Lib.hid hm; have HA' := Lib.hid hA'; have HB' := Lib.hid hB'; have HM' := Lib.hid hm'; clear hA hB hm hA' hB' hm'
  cases by'
  all_goals
    go_enter Try.func44, Try.ntmps44
    go_wp2_with fail
    refine (eq_side _ _ _ _ _ _ _ _ _ ps _ (((HA.out.alloc (Nat.le_refl _) _).alloc (by simp) _).more (by simp; omega)) (((HB.out.alloc (Nat.le_refl _) _).alloc (by simp) _).more (by simp; omega)) HM.out hm2).mono ?_
    rintro e w1 ⟨rfl, b1'⟩
    obtain ⟨q1, q2, z1, b1⟩ := boxed2 b1'
    have x9 : w1.cell? ⟨w.heap.size, 9, none⟩ = some (.int .i64 tag') := q1.get 9 rfl
    have x10 : w1.cell? ⟨w.heap.size, 10, none⟩ = some (.int .i64 st') := q1.get 10 rfl
    have x11 : w1.cell? ⟨w.heap.size, 11, none⟩ = some (.int .i64 fi') := q1.get 11 rfl
    have x12 : w1.cell? ⟨w.heap.size, 12, none⟩ = some (.slice A' m' c') := q1.get 12 rfl
    have x13 : w1.cell? ⟨w.heap.size, 13, none⟩ = some (.int .i64 ac') := q1.get 13 rfl
    have y9 : w1.cell? ⟨w.heap.size + 1, 9, none⟩ = some (.int .i64 tag') := q2.get 9 rfl
    have y10 : w1.cell? ⟨w.heap.size + 1, 10, none⟩ = some (.int .i64 st') := q2.get 10 rfl
    have y11 : w1.cell? ⟨w.heap.size + 1, 11, none⟩ = some (.int .i64 fi') := q2.get 11 rfl
    have y12 : w1.cell? ⟨w.heap.size + 1, 12, none⟩ = some (.slice B' m' d') := q2.get 12 rfl
    have y13 : w1.cell? ⟨w.heap.size + 1, 13, none⟩ = some (.int .i64 ac') := q2.get 13 rfl
    have B1 := Lib.hid b1
    clear q1 q2 b1' b1
    go_wp2_with fail
    refine (eq_side _ _ _ _ _ _ _ _ _ ps' _ ((HA'.out.below B1.out (Nat.le_refl _)).more B1.out.size) ((HB'.out.below B1.out (Nat.le_refl _)).more B1.out.size) HM'.out hm2').mono ?_
    rintro e w2 ⟨rfl, b2⟩
    go_wp2
    go_ret
    exact ⟨rfl, bstep B1.out b2 B1.out.size⟩
end Go.Proofs.Ytgljbbdhhgamjaa
