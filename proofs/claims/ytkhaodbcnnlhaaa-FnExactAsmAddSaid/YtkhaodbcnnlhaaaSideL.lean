/-
  What the laws' helpers on sides return: sizes, copies, comparisons. Conditions: those that each theorem bears.
-/
import Derived.Test.YtkhaodbcnnlhaaaAsmL
namespace Go.Proofs.Ytkhaodbcnnlhaaa
open Go.ChangeShapes Go.WideShapes Go.ChangeAt Go.RowKit
set_option linter.unusedVariables false
set_option linter.unusedSimpArgs false
theorem sz_side (tag st fi ac : Int) (A : Option Addr) (m c : Nat) (ps : List Dat) (L0 : Int) (w : World) (hL : 0 ≤ L0 ∧ L0 ≤ 1048576) (hp : Sl w w.heap.size A (dats ps)) (hm : ps.length = m) (hm2 : m ≤ 9223372036854775807) (ht : Dats ps) :
    Calls Try.prog 24 #[.agg #[.int .i64 tag, .int .i64 st, .int .i64 fi, .slice A m c, .int .i64 ac], .int .i64 L0] w (SzP m w) := by
  have HP := Lib.hid hp; have HM := Lib.hid hm; have HT := Lib.hid ht; clear hp hm ht
  go_enter Try.func24, Try.ntmps24
  go_wp2_with fail
  refine (sz_dats _ _ _ ps _ _ hL ((HP.out.alloc (Nat.le_refl _) _).more (by simp)) HM.out hm2 HT.out).mono ?_
  rintro e w1 ⟨r, rfl, hr, b1'⟩
  obtain ⟨q1, z1, b1⟩ := boxed b1'
  have B1 := Lib.hid b1
  clear b1 b1' q1
  rcases hr with rfl | ⟨r1, r2, r3⟩
  · go_wp2
    go_ret
    exact ⟨_, rfl, .inl rfl, B1.out⟩
  · have hr0 : ¬ r < 0 := by omega
    go_wp2
    go_ret
    exact ⟨_, rfl, .inr ⟨r1, r2, r3⟩, B1.out⟩
def MadeSide (tag st fi ac : Int) (ps : List Dat) (m : Nat) (w : World) (e : Ending) (w' : World) : Prop :=
  ∃ A c, e = .returned (.agg #[.int .i64 tag, .int .i64 st, .int .i64 fi, .slice A m c, .int .i64 ac]) ∧ Own w' w.heap.size 45 7 A m c (dats ps) ∧ Below w.heap.size w w'
set_option maxHeartbeats 1600000 in
theorem to_side (tag st fi ac : Int) (A : Option Addr) (m c : Nat) (ps : List Dat) (w : World) (hp : Sl w w.heap.size A (dats ps)) (hm : ps.length = m) (hm2 : m ≤ 1048576) :
    Calls Try.prog 26 #[.agg #[.int .i64 tag, .int .i64 st, .int .i64 fi, .slice A m c, .int .i64 ac]] w (MadeSide tag st fi ac ps m w) := by
  have HP := Lib.hid hp; have HM := Lib.hid hm; clear hp hm
  go_enter Try.func26, Try.ntmps26
  go_wp2_with fail
  refine (to_dats _ _ _ ps _ ((((HP.out.alloc (Nat.le_refl _) _).alloc (by simp) _).alloc (by simp; omega) _).more (by simp; omega)) HM.out hm2).mono ?_
  rintro e w1 ⟨A1, c1, rfl, o1, b1'⟩
  obtain ⟨q1, q2, q3, z1, b1⟩ := boxed3 b1'
  have Q1' := Lib.hid q1
  have Q2' := Lib.hid q2
  have Q3' := Lib.hid q3
  have B1 := Lib.hid b1
  simp only [World.size_alloc] at o1
  have O1 := Lib.hid o1
  clear o1 b1 b1' q1 q2 q3
  have x4 : w1.cell? ⟨w.heap.size, 4, none⟩ = some (.int .i64 ac) := Q1'.out.get 4 rfl
  have hl3 : w.heap.size + 2 < w1.heap.size := Q3'.out.lt
  have y0 : w1.cell? ⟨w.heap.size + 2, 0, none⟩ = some (.int .i64 tag) := Q3'.out.get 0 rfl
  have z0 : w1.cell? ⟨w.heap.size + 1, 0, none⟩ = some (.int .i64 0) := Q2'.out.get 0 rfl
  have g0 := Q3'.out.frozen 0
  have f0 := Q2'.out.frozen 0
  have y1 : w1.cell? ⟨w.heap.size + 2, 1, none⟩ = some (.int .i64 st) := Q3'.out.get 1 rfl
  have z1 : w1.cell? ⟨w.heap.size + 1, 1, none⟩ = some (.int .i64 0) := Q2'.out.get 1 rfl
  have g1 := Q3'.out.frozen 1
  have f1 := Q2'.out.frozen 1
  have y2 : w1.cell? ⟨w.heap.size + 2, 2, none⟩ = some (.int .i64 fi) := Q3'.out.get 2 rfl
  have z2 : w1.cell? ⟨w.heap.size + 1, 2, none⟩ = some (.int .i64 0) := Q2'.out.get 2 rfl
  have g2 := Q3'.out.frozen 2
  have f2 := Q2'.out.frozen 2
  have y3 : w1.cell? ⟨w.heap.size + 2, 3, none⟩ = some (.slice none 0 0) := Q3'.out.get 3 rfl
  have z3 : w1.cell? ⟨w.heap.size + 1, 3, none⟩ = some (.slice none 0 0) := Q2'.out.get 3 rfl
  have g3 := Q3'.out.frozen 3
  have f3 := Q2'.out.frozen 3
  have y4 : w1.cell? ⟨w.heap.size + 2, 4, none⟩ = some (.int .i64 0) := Q3'.out.get 4 rfl
  have z4 : w1.cell? ⟨w.heap.size + 1, 4, none⟩ = some (.int .i64 0) := Q2'.out.get 4 rfl
  have g4 := Q3'.out.frozen 4
  have f4 := Q2'.out.frozen 4
  have h1 := O1.out
  go_wp2
  refine bodyPost_ret (v := .agg #[.int .i64 tag, .int .i64 st, .int .i64 fi, .slice A1 m c1, .int .i64 ac]) (by simp [results, Try.results26, go_sem, z0, z1, z2, z3, z4]) rfl ?_
  exact ⟨_, _, rfl, (((((((h1.setLow (by first | (simp; done) | (simp; omega)) _).setLow (by first | (simp; done) | (simp; omega)) _).setLow (by first | (simp; done) | (simp; omega)) _).setLow (by first | (simp; done) | (simp; omega)) _).setLow (by first | (simp; done) | (simp; omega)) _).setLow (by first | (simp; done) | (simp; omega)) _).setLow (by first | (simp; done) | (simp; omega)) _).lower (by omega), (((((((B1.out.setCell (by first | (simp; done) | (simp; omega)) _).setCell (by first | (simp; done) | (simp; omega)) _).setCell (by first | (simp; done) | (simp; omega)) _).setCell (by first | (simp; done) | (simp; omega)) _).setCell (by first | (simp; done) | (simp; omega)) _).setCell (by first | (simp; done) | (simp; omega)) _).setCell (by first | (simp; done) | (simp; omega)) _)⟩
theorem eq_side (tag st fi ac : Int) (A B : Option Addr) (m c d : Nat) (ps : List Dat) (w : World) (hA : Sl w w.heap.size A (dats ps)) (hB : Sl w w.heap.size B (dats ps)) (hm : ps.length = m) (hm2 : m ≤ 9223372036854775807) :
    Calls Try.prog 28 #[.agg #[.int .i64 tag, .int .i64 st, .int .i64 fi, .slice A m c, .int .i64 ac], .agg #[.int .i64 tag, .int .i64 st, .int .i64 fi, .slice B m d, .int .i64 ac]] w fun e w' => e = .returned (.bool true) ∧ Below w.heap.size w w' := by
  have HA := Lib.hid hA; have HB := Lib.hid hB; have HM := Lib.hid hm; clear hA hB hm
  go_enter Try.func28, Try.ntmps28
  go_wp2_with fail
  refine (eq_dats _ _ _ _ _ ps _ (((HA.out.alloc (Nat.le_refl _) _).alloc (by simp) _).more (by simp; omega)) (((HB.out.alloc (Nat.le_refl _) _).alloc (by simp) _).more (by simp; omega)) HM.out hm2).mono ?_
  rintro e w1 ⟨rfl, b1'⟩
  obtain ⟨q1, q2, z1, b1⟩ := boxed2 b1'
  have x4 : w1.cell? ⟨w.heap.size, 4, none⟩ = some (.int .i64 ac) := q1.get 4 rfl
  have y4 : w1.cell? ⟨w.heap.size + 1, 4, none⟩ = some (.int .i64 ac) := q2.get 4 rfl
  have B1 := Lib.hid b1
  clear q1 q2 b1' b1
  go_wp2
  go_ret
  exact ⟨rfl, B1.out⟩
end Go.Proofs.Ytkhaodbcnnlhaaa
