/-
  What DrawSeenAdd and its kin return. Condition: the code is a slice of bytes.
-/
import Derived.Test.YtglebkjhfofkcaaDrawS
namespace Go.Proofs.Ytglebkjhfofkcaa
open Go.ChangeShapes Go.WideShapes Go.ChangeAt Go.RowKit
set_option linter.unusedVariables false

/-- A Seen and the number of a part that were drawn. -/
def PairD (w : World) (e : Ending) (w' : World) : Prop :=
  ∃ (cum : Int) (A : Option Addr) (n c : Nat) (zs : List Int) (tsn : Int), e = .returned (.tuple #[.agg #[.int .i64 cum, .slice A n c], .int .i64 tsn]) ∧ zs.length = n ∧ n ≤ 18 ∧ Own w' w.heap.size 3 1 A n c (ints zs) ∧ Below w.heap.size w w'
set_option maxHeartbeats 1600000 in
theorem draw_seen_add (A0 : Option Addr) (n0 c0 : Nat) (w : World) (h : Bts w A0 n0 c0) : Calls Try.prog 52 #[.slice A0 n0 c0] w (PairD w) := by
  have H := Lib.hid (h.below ((Below.refl _ w).alloc (Nat.le_refl _) (.cells #[.int .i64 0, .slice none 0 0] 26))); clear h
  go_enter Try.func52, Try.ntmps52
  go_wp2_with fail
  refine (opened _ _ _ _ H.out).mono ?_
  rintro e w1 ⟨rfl, r1, b1', s1⟩
  obtain ⟨q1, z1, b1⟩ := boxed b1'
  have Q1 := Lib.hid q1
  have B1 := Lib.hid b1
  simp only [World.size_alloc] at r1
  clear b1' b1 q1 s1
  go_wp2_with fail
  refine (seen_drawn _ _ _ r1 (by omega)).mono ?_
  rintro e w2 ⟨cum, A, n, c, zs, rfl, hzl, hn, o2, r2, g2⟩
  have HZ := Lib.hid hzl
  have Q2 := Lib.hid (Q1.out.grown g2 (fun e => by injection e; omega))
  have O2 := Lib.hid o2
  have B2 := Lib.hid (B1.out.grown g2 B1.out.size (fun k hk => by injection hk; omega))
  have hl2 := Q2.out.lt
  have hg2 := Lib.hid g2.size
  have hl1 := r1.lt
  have hl3 := r2.lt
  clear hzl o2 g2 r1
  have QSa := Lib.hid (Blk.new w2 #[.int .i64 cum, .slice A n c] 26)
  have hgn := hg2.out
  clear hg2
  by_cases hok : okB cum = true
  · go_wp2_with (go_at_call 60; refine (l3ok_any _ _).mono ?_; rintro e w' ⟨rfl, rfl⟩)
    refine (pick_pos _ _ _ _ (r2.alloc _) (by omega) (by omega)).mono ?_
    rintro e w3 ⟨j, rfl, j0, j1, r3, g3, s3⟩
    clear s3
    have QS := Lib.hid (QSa.out.grown g3 (fun e => by injection e; omega))
    have Q3 := Lib.hid ((Q2.out.alloc _).grown g3 (fun e => by injection e; omega))
    have O3 := Lib.hid ((O2.out.alloc _).grown g3 (fun a ha => fun e => by injection e with e; have := (O2.out.blk a ha).1; omega))
    have B3 := Lib.hid ((B2.out.alloc (by omega) _).grown g3 (by simp; omega) (fun k hk => by injection hk; omega))
    have x0 : w3.cell? ⟨w2.heap.size, 0, none⟩ = some (.int .i64 cum) := QS.out.get 0 rfl
    have x1 : w3.cell? ⟨w2.heap.size, 1, none⟩ = some (.slice A n c) := QS.out.get 1 rfl
    clear g3
    by_cases hj : 0 < j
    · go_wp2_with fail
      go_region_held3 (fun w' => w'.cell? ⟨w2.heap.size, 0, none⟩ = some (.int .i64 cum) ∧ w'.cell? ⟨w2.heap.size, 1, none⟩ = some (.slice A n c)) (first | exact ⟨x0, x1⟩ | exact ⟨p0, p1⟩ | exact ⟨((QS4.out.far (Nat.ne_of_gt (by simp; omega)) _).far (Nat.ne_of_gt (by simp; omega)) _).get 0 rfl, ((QS4.out.far (Nat.ne_of_gt (by simp; omega)) _).far (Nat.ne_of_gt (by simp; omega)) _).get 1 rfl⟩ | go_keep)
        (first
          | (go_at_call 83; (with_reducible refine (pick_pos _ _ _ _ r3.drew (by omega) (by omega)).mono ?_); rintro e w4 ⟨v, rfl, v0, v1, r4, g4, s4⟩; clear s4; have hw := IntWalk.i64_in (v - 2) (by omega); have QS4 := Lib.hid (QS.out.drew.grown g4 (fun e => by injection e; omega)); have Q4 := Lib.hid (Q3.out.drew.grown g4 (fun e => by injection e; omega)); have O4 := Lib.hid (O3.out.drew.grown g4 (fun a ha => fun e => by injection e with e; have := (O2.out.blk a ha).1; omega)); have B4 := Lib.hid (B3.out.drew.grown g4 B3.out.size (fun k hk => by injection hk; omega)); have p0 : w4.cell? ⟨w2.heap.size, 0, none⟩ = some (.int .i64 cum) := QS4.out.get 0 rfl; have p1 : w4.cell? ⟨w2.heap.size, 1, none⟩ = some (.slice A n c) := QS4.out.get 1 rfl; have y0 := Q4.out.get 0 rfl; have y1 := Q4.out.get 1 rfl; have yf0 := Q4.out.frozen 0; have yf1 := Q4.out.frozen 1; have hl4 := Q4.out.lt; clear g4)
          | (go_at_call 61; refine (l3add_any _ _ hok _).mono ?_; rintro e w' ⟨rfl, rfl⟩))
      go_wp2
      refine bodyPost_ret (v := .tuple #[.agg #[.int .i64 cum, .slice A n c], .int .i64 (sadd cum (v - 2))]) (by simp [results, Try.results52, go_sem, y0, y1]) rfl ?_
      exact ⟨cum, A, n, c, zs, _, rfl, HZ.out, hn, ((O4.out.setLow (by simp; omega) _).setLow (by simp; omega) _).lower (by omega), (B4.out.setCell (by simp) _).setCell (by simp) _⟩
    · go_wp2_with fail
      go_region_held3 (fun w' => w'.cell? ⟨w2.heap.size, 0, none⟩ = some (.int .i64 cum) ∧ w'.cell? ⟨w2.heap.size, 1, none⟩ = some (.slice A n c)) (first | exact ⟨x0, x1⟩ | exact ⟨p0, p1⟩ | exact ⟨((QS4.out.far (Nat.ne_of_gt (by simp; omega)) _).far (Nat.ne_of_gt (by simp; omega)) _).get 0 rfl, ((QS4.out.far (Nat.ne_of_gt (by simp; omega)) _).far (Nat.ne_of_gt (by simp; omega)) _).get 1 rfl⟩ | go_keep)
        (first
          | (go_at_call 84; (with_reducible refine (near_any _ _ _ _ r3.drew (by omega)).mono ?_); rintro e w4 ⟨v, rfl, v0, v1, r4, g4⟩; have QS4 := Lib.hid (QS.out.drew.grown g4 (fun e => by injection e; omega)); have Q4 := Lib.hid (Q3.out.drew.grown g4 (fun e => by injection e; omega)); have O4 := Lib.hid (O3.out.drew.grown g4 (fun a ha => fun e => by injection e with e; have := (O2.out.blk a ha).1; omega)); have B4 := Lib.hid (B3.out.drew.grown g4 B3.out.size (fun k hk => by injection hk; omega)); have p0 : w4.cell? ⟨w2.heap.size, 0, none⟩ = some (.int .i64 cum) := QS4.out.get 0 rfl; have p1 : w4.cell? ⟨w2.heap.size, 1, none⟩ = some (.slice A n c) := QS4.out.get 1 rfl; have y0 := Q4.out.get 0 rfl; have y1 := Q4.out.get 1 rfl; have yf0 := Q4.out.frozen 0; have yf1 := Q4.out.frozen 1; have hl4 := Q4.out.lt; clear g4))
      go_wp2
      refine bodyPost_ret (v := .tuple #[.agg #[.int .i64 cum, .slice A n c], .int .i64 v]) (by simp [results, Try.results52, go_sem, y0, y1]) rfl ?_
      exact ⟨cum, A, n, c, zs, _, rfl, HZ.out, hn, ((O4.out.setLow (by simp; omega) _).setLow (by simp; omega) _).lower (by omega), (B4.out.setCell (by simp) _).setCell (by simp) _⟩
  · have hok : okB cum = false := by simpa using hok
    go_wp2_with (go_at_call 60; refine (l3ok_any _ _).mono ?_; rintro e w' ⟨rfl, rfl⟩)
    have QS := QSa
    have Q3 := Lib.hid (Q2.out.alloc (.cells #[.int .i64 cum, .slice A n c] 26))
    have O3 := Lib.hid (O2.out.alloc (.cells #[.int .i64 cum, .slice A n c] 26))
    have B3 := Lib.hid (B2.out.alloc (by omega) (.cells #[.int .i64 cum, .slice A n c] 26))
    have x0 := QS.out.get 0 rfl
    have x1 := QS.out.get 1 rfl
    have r3 := r2.alloc (.cells #[.int .i64 cum, .slice A n c] 26)
    go_region_held3 (fun w' => w'.cell? ⟨w2.heap.size, 0, none⟩ = some (.int .i64 cum) ∧ w'.cell? ⟨w2.heap.size, 1, none⟩ = some (.slice A n c)) (first | exact ⟨x0, x1⟩ | exact ⟨p0, p1⟩ | exact ⟨((QS4.out.far (Nat.ne_of_gt (by simp; omega)) _).far (Nat.ne_of_gt (by simp; omega)) _).get 0 rfl, ((QS4.out.far (Nat.ne_of_gt (by simp; omega)) _).far (Nat.ne_of_gt (by simp; omega)) _).get 1 rfl⟩ | go_keep)
      (first
        | (go_at_call 84; (with_reducible refine (near_any _ _ _ _ r3.drew (by omega)).mono ?_); rintro e w4 ⟨v, rfl, v0, v1, r4, g4⟩; have QS4 := Lib.hid (QS.out.drew.grown g4 (fun e => by injection e; omega)); have Q4 := Lib.hid (Q3.out.drew.grown g4 (fun e => by injection e; omega)); have O4 := Lib.hid (O3.out.drew.grown g4 (fun a ha => fun e => by injection e with e; have := (O2.out.blk a ha).1; omega)); have B4 := Lib.hid (B3.out.drew.grown g4 B3.out.size (fun k hk => by injection hk; omega)); have p0 : w4.cell? ⟨w2.heap.size, 0, none⟩ = some (.int .i64 cum) := QS4.out.get 0 rfl; have p1 : w4.cell? ⟨w2.heap.size, 1, none⟩ = some (.slice A n c) := QS4.out.get 1 rfl; have y0 := Q4.out.get 0 rfl; have y1 := Q4.out.get 1 rfl; have yf0 := Q4.out.frozen 0; have yf1 := Q4.out.frozen 1; have hl4 := Q4.out.lt; clear g4))
    go_wp2
    refine bodyPost_ret (v := .tuple #[.agg #[.int .i64 cum, .slice A n c], .int .i64 v]) (by simp [results, Try.results52, go_sem, y0, y1]) rfl ?_
    exact ⟨cum, A, n, c, zs, _, rfl, HZ.out, hn, ((O4.out.setLow (by simp; omega) _).setLow (by simp; omega) _).lower (by omega), (B4.out.setCell (by simp) _).setCell (by simp) _⟩
end Go.Proofs.Ytglebkjhfofkcaa
