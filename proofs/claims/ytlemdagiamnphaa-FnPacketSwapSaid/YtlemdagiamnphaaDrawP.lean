/-
  What the drawing of a chunk returns. Condition: the reader can be read.
-/
import Derived.Test.YtlemdagiamnphaaDrawC
import Derived.Test.YtlemdagiamnphaaPkG0
import Derived.Test.YtlemdagiamnphaaPkV
namespace Go.Proofs.Ytlemdagiamnphaa
open Go.ChangeShapes Go.WideShapes Go.ChangeAt Go.RowKit
set_option linter.unusedVariables false
set_option linter.unusedSimpArgs false

def ChkD (g L : Nat) (w : World) (e : Ending) (w' : World) : Prop :=
  ∃ c : Chk, e = .returned (chkV c) ∧ c.2.2.size ≤ 70 ∧ RdB w' g L ∧ w.grownBy w' (some g)
set_option maxHeartbeats 3200000 in
theorem chunk_drawn (g : Nat) (w : World) (L : Nat) (hr : RdB w g L) (hL : L ≤ 700000) : Calls Try.prog 42 #[.pointer (some ⟨g, 0, none⟩)] w (ChkD g (L + 100) w) := by
  have hgl := hr.lt
  have Q0 := Lib.hid (Blk.new w #[.int .i64 0, .int .i64 0, .string ⟨#[]⟩] 46)
  have G0 := Lib.hid (World.grownBy_alloc w (.cells #[.int .i64 0, .int .i64 0, .string ⟨#[]⟩] 46) (some g))
  go_enter Try.func42, Try.ntmps42
  go_wp2_with fail
  refine (pick_pos _ _ _ L (hr.alloc _) (by omega) (by omega)).mono ?_
  rintro e w1 ⟨k, rfl, k0, k1, r1, g1, s1⟩
  have G1 := Lib.hid (gb_trans G0.out g1 (fun k hk => .inl hk))
  have Q1 := Lib.hid (Q0.out.grown g1 (fun e => by injection e; omega))
  clear g1 s1
  go_wp2_with fail
  refine (pick_pos _ _ _ _ r1 (by omega) (by omega)).mono ?_
  rintro e w2 ⟨f, rfl, f0, f1, r2, g2, s2⟩
  have G2 := Lib.hid (gb_trans G1.out g2 (fun k hk => .inl hk))
  have Q2 := Lib.hid (Q1.out.grown g2 (fun e => by injection e; omega))
  clear g2 s2
  go_wp2_with fail
  refine (bytes_any _ _ _ 12 (by omega) r2 (by omega)).mono ?_
  rintro e w3 ⟨s, rfl, hs, r3, g3⟩
  have G3 := Lib.hid (gb_trans G2.out g3 (fun k hk => .inl hk))
  have Q3 := Lib.hid (Q2.out.grown g3 (fun e => by injection e; omega))
  have hl3 := Q3.out.lt
  clear g3
  have P3 := Lib.hid (Blk.new w3 #[.int .i64 k, .int .i64 f, .string s] 46)
  have r3' := r3.alloc (.cells #[.int .i64 k, .int .i64 f, .string s] 46)
  have Q3' := Lib.hid (Q3.out.alloc (.cells #[.int .i64 k, .int .i64 f, .string s] 46))
  have G3' := Lib.hid (gb_alloc G3.out (.cells #[.int .i64 k, .int .i64 f, .string s] 46))
  have hg3 := r3.lt
  go_wp2_with fail
  refine (pick_pos _ _ _ _ r3' (by omega) (by omega)).mono ?_
  rintro e w4 ⟨m, rfl, m0, m1, r4, g4, s4⟩
  have G4 := Lib.hid (gb_trans G3'.out g4 (fun k hk => .inl hk))
  have Q4 := Lib.hid (Q3'.out.grown g4 (fun e => by injection e; omega))
  have P4 := Lib.hid (P3.out.grown g4 (fun e => by injection e; omega))
  obtain ⟨pg, hpg⟩ : ∃ p, p = w3.heap.size := ⟨_, rfl⟩
  rw [← hpg] at P4 ⊢
  have hgp : g < pg := by omega
  have hqp : w.heap.size < pg := by omega
  have hpl4 := P4.out.lt
  clear g4 s4 hpg r3 r3' Q3 Q3' G3 G3' P3 hl3 hg3
  by_cases hm0 : m = 0
  · subst hm0
    go_wp2_with fail
    refine (pick_pos _ _ _ _ (r4.alloc _) (by omega) (by omega)).mono ?_
    rintro e w5 ⟨j, rfl, j0, j1, r5, g5, s5⟩
    have hq : Blk w5 w4.heap.size ([-1, 255, 256].map (Value.int .i64)).toArray 3 := (Blk.new w4 _ _).grown g5 (fun e => by have := r4.lt; injection e; omega)
    obtain ⟨v, hv, hc⟩ := lit_get _ hq j j0 (by simpa using j1)
    have G5 := Lib.hid (gb_trans (gb_alloc G4.out _) g5 (fun k hk => .inl hk))
    have Q5 := Lib.hid ((Q4.out.alloc _).grown g5 (fun e => by injection e; omega))
    have P5 := Lib.hid ((P4.out.alloc _).grown g5 (fun e => by injection e; omega))
    have y0 : w5.cell? ⟨pg, 0, none⟩ = some (.int .i64 k) := P5.out.get 0 rfl
    have y1 : w5.cell? ⟨pg, 1, none⟩ = some (.int .i64 f) := P5.out.get 1 rfl
    have y2 : w5.cell? ⟨pg, 2, none⟩ = some (.string s) := P5.out.get 2 rfl
    have yf := P5.out.frozen 0
    have x0 : w5.cell? ⟨w.heap.size, 0, none⟩ = some (.int .i64 0) := Q5.out.get 0 rfl
    have x1 : w5.cell? ⟨w.heap.size, 1, none⟩ = some (.int .i64 0) := Q5.out.get 1 rfl
    have x2 : w5.cell? ⟨w.heap.size, 2, none⟩ = some (.string ⟨#[]⟩) := Q5.out.get 2 rfl
    have xf0 := Q5.out.frozen 0
    have xf1 := Q5.out.frozen 1
    have xf2 := Q5.out.frozen 2
    have hl5 := Q5.out.lt
    have hl5' := P5.out.lt
    clear hq g5 s5 hv
    go_wp2
    refine bodyPost_ret (v := chkV (v, f, s)) (by simp [results, Try.results42, go_sem, x0, x1, x2, y0, y1, y2, hl5, hl5', chkV]) rfl ⟨_, rfl, by show s.size ≤ 70; omega, ?_, ?_⟩
    · exact ((((r5.setCell (q := ⟨pg, 0, none⟩) hgp _).setCell (q := ⟨w.heap.size, 0, none⟩) hgl _).setCell (q := ⟨w.heap.size, 1, none⟩) hgl _).setCell (q := ⟨w.heap.size, 2, none⟩) hgl _).mono (by omega)
    · exact gb_setCell (gb_setCell (gb_setCell (gb_setCell G5.out (.inr (Nat.le_of_lt hqp)) _) (.inr (Nat.le_refl _)) _) (.inr (Nat.le_refl _)) _) (.inr (Nat.le_refl _)) _
  · by_cases hm1 : m = 1
    · subst hm1
      go_wp2_with fail
      refine (pick_pos _ _ _ _ (r4.alloc _) (by omega) (by omega)).mono ?_
      rintro e w5 ⟨j, rfl, j0, j1, r5, g5, s5⟩
      have hq : Blk w5 w4.heap.size ([-1, 255, 256].map (Value.int .i64)).toArray 3 := (Blk.new w4 _ _).grown g5 (fun e => by have := r4.lt; injection e; omega)
      obtain ⟨v, hv, hc⟩ := lit_get _ hq j j0 (by simpa using j1)
      have G5 := Lib.hid (gb_trans (gb_alloc G4.out _) g5 (fun k hk => .inl hk))
      have Q5 := Lib.hid ((Q4.out.alloc _).grown g5 (fun e => by injection e; omega))
      have P5 := Lib.hid ((P4.out.alloc _).grown g5 (fun e => by injection e; omega))
      have y0 : w5.cell? ⟨pg, 0, none⟩ = some (.int .i64 k) := P5.out.get 0 rfl
      have y1 : w5.cell? ⟨pg, 1, none⟩ = some (.int .i64 f) := P5.out.get 1 rfl
      have y2 : w5.cell? ⟨pg, 2, none⟩ = some (.string s) := P5.out.get 2 rfl
      have yf := P5.out.frozen 1
      have x0 : w5.cell? ⟨w.heap.size, 0, none⟩ = some (.int .i64 0) := Q5.out.get 0 rfl
      have x1 : w5.cell? ⟨w.heap.size, 1, none⟩ = some (.int .i64 0) := Q5.out.get 1 rfl
      have x2 : w5.cell? ⟨w.heap.size, 2, none⟩ = some (.string ⟨#[]⟩) := Q5.out.get 2 rfl
      have xf0 := Q5.out.frozen 0
      have xf1 := Q5.out.frozen 1
      have xf2 := Q5.out.frozen 2
      have hl5 := Q5.out.lt
      have hl5' := P5.out.lt
      clear hq g5 s5 hv
      go_wp2
      refine bodyPost_ret (v := chkV (k, v, s)) (by simp [results, Try.results42, go_sem, x0, x1, x2, y0, y1, y2, hl5, hl5', chkV]) rfl ⟨_, rfl, by show s.size ≤ 70; omega, ?_, ?_⟩
      · exact ((((r5.setCell (q := ⟨pg, 1, none⟩) hgp _).setCell (q := ⟨w.heap.size, 0, none⟩) hgl _).setCell (q := ⟨w.heap.size, 1, none⟩) hgl _).setCell (q := ⟨w.heap.size, 2, none⟩) hgl _).mono (by omega)
      · exact gb_setCell (gb_setCell (gb_setCell (gb_setCell G5.out (.inr (Nat.le_of_lt hqp)) _) (.inr (Nat.le_refl _)) _) (.inr (Nat.le_refl _)) _) (.inr (Nat.le_refl _)) _
    · by_cases hm2 : m = 2
      · subst hm2
        go_wp2_with fail
        refine (pick_pos _ _ _ _ r4 (by omega) (by omega)).mono ?_
        rintro e w5 ⟨j, rfl, j0, j1, r5, g5, s5⟩
        obtain ⟨j, rfl⟩ := Int.eq_ofNat_of_zero_le j0
        have G5 := Lib.hid (gb_trans G4.out g5 (fun k hk => .inl hk))
        have Q5 := Lib.hid (Q4.out.grown g5 (fun e => by injection e; omega))
        have P5 := Lib.hid (P4.out.grown g5 (fun e => by injection e; omega))
        have y0 : w5.cell? ⟨pg, 0, none⟩ = some (.int .i64 k) := P5.out.get 0 rfl
        have y1 : w5.cell? ⟨pg, 1, none⟩ = some (.int .i64 f) := P5.out.get 1 rfl
        have y2 : w5.cell? ⟨pg, 2, none⟩ = some (.string s) := P5.out.get 2 rfl
        have yf := P5.out.frozen 2
        have x0 : w5.cell? ⟨w.heap.size, 0, none⟩ = some (.int .i64 0) := Q5.out.get 0 rfl
        have x1 : w5.cell? ⟨w.heap.size, 1, none⟩ = some (.int .i64 0) := Q5.out.get 1 rfl
        have x2 : w5.cell? ⟨w.heap.size, 2, none⟩ = some (.string ⟨#[]⟩) := Q5.out.get 2 rfl
        have xf0 := Q5.out.frozen 0
        have xf1 := Q5.out.frozen 1
        have xf2 := Q5.out.frozen 2
        have hl5 := Q5.out.lt
        have hl5' := P5.out.lt
        have MA := Lib.hid (fun w => (by have := many_any ⟨#[98]⟩ (58 + j) 70 (by show 1 * (58 + j) ≤ 70; omega) (by omega) (by show 1 ≤ 1000; omega) (by omega) w; simpa using this : Calls Try.prog 56 #[.string ⟨#[98]⟩, .int .i64 (58 + (j : Int))] w fun e w' => TextLe 70 e ∧ w = w'))
        clear g5 s5
        go_wp2_with fail
        refine (MA.out _).mono ?_
        rintro e w6 ⟨⟨u, rfl, hu⟩, rfl⟩
        go_wp2
        refine bodyPost_ret (v := chkV (k, f, u)) (by simp [results, Try.results42, go_sem, x0, x1, x2, y0, y1, y2, hl5, hl5', chkV]) rfl ⟨_, rfl, hu, ?_, ?_⟩
        · exact ((((r5.setCell (q := ⟨pg, 2, none⟩) hgp _).setCell (q := ⟨w.heap.size, 0, none⟩) hgl _).setCell (q := ⟨w.heap.size, 1, none⟩) hgl _).setCell (q := ⟨w.heap.size, 2, none⟩) hgl _).mono (by omega)
        · exact gb_setCell (gb_setCell (gb_setCell (gb_setCell G5.out (.inr (Nat.le_of_lt hqp)) _) (.inr (Nat.le_refl _)) _) (.inr (Nat.le_refl _)) _) (.inr (Nat.le_refl _)) _
      · have e0 : (m == 0) = false := by simpa using hm0
        have e1 : (m == 1) = false := by simpa using hm1
        have e2 : (m == 2) = false := by simpa using hm2
        have y0 : w4.cell? ⟨pg, 0, none⟩ = some (.int .i64 k) := P4.out.get 0 rfl
        have y1 : w4.cell? ⟨pg, 1, none⟩ = some (.int .i64 f) := P4.out.get 1 rfl
        have y2 : w4.cell? ⟨pg, 2, none⟩ = some (.string s) := P4.out.get 2 rfl
        have x0 : w4.cell? ⟨w.heap.size, 0, none⟩ = some (.int .i64 0) := Q4.out.get 0 rfl
        have x1 : w4.cell? ⟨w.heap.size, 1, none⟩ = some (.int .i64 0) := Q4.out.get 1 rfl
        have x2 : w4.cell? ⟨w.heap.size, 2, none⟩ = some (.string ⟨#[]⟩) := Q4.out.get 2 rfl
        have xf0 := Q4.out.frozen 0
        have xf1 := Q4.out.frozen 1
        have xf2 := Q4.out.frozen 2
        have hl5 := Q4.out.lt
        go_wp2
        refine bodyPost_ret (v := chkV (k, f, s)) (by simp [results, Try.results42, go_sem, x0, x1, x2, y0, y1, y2, hl5, chkV]) rfl ⟨_, rfl, by show s.size ≤ 70; omega, ?_, ?_⟩
        · exact (((r4.setCell (q := ⟨w.heap.size, 0, none⟩) hgl _).setCell (q := ⟨w.heap.size, 1, none⟩) hgl _).setCell (q := ⟨w.heap.size, 2, none⟩) hgl _).mono (by omega)
        · exact gb_setCell (gb_setCell (gb_setCell G4.out (.inr (Nat.le_refl _)) _) (.inr (Nat.le_refl _)) _) (.inr (Nat.le_refl _)) _
end Go.Proofs.Ytlemdagiamnphaa
