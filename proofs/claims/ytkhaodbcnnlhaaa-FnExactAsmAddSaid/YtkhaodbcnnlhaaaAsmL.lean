/-
  What the laws' helpers on assemblies return: sizes, copies, comparisons. Conditions: those that each theorem bears.
-/
import Derived.Test.YtkhaodbcnnlhaaaDatE
namespace Go.Proofs.Ytkhaodbcnnlhaaa
open Go.ChangeShapes Go.WideShapes Go.ChangeAt Go.RowKit
set_option linter.unusedVariables false
set_option linter.unusedSimpArgs false

theorem Own.caps {w : World} {base : Nat} {e : TypeId} {size n c : Nat} {A : Option Addr} {xs : List Value} (h : Own w base e size A n c xs) : n ≤ c ∧ c ≤ maxLen := by
  rcases h.2 with ⟨hv, _⟩ | ⟨g', cap, cur, hv, _, _, hnc, hm, _⟩
  · injection hv with hA hn hc
    subst hn hc
    exact ⟨Nat.le_refl _, Nat.zero_le _⟩
  · injection hv with _ _ hc
    subst hc
    exact ⟨hnc, hm⟩
/-- Too much, or what is left: then the lists are not too long. -/
def SzA (n m : Nat) (w : World) (e : Ending) (w' : World) : Prop := ∃ r : Int, e = .returned (.int .i64 r) ∧ (r = -1 ∨ (0 ≤ r ∧ r ≤ 1048576 ∧ n ≤ 1048576 ∧ m ≤ 1048576)) ∧ Below w.heap.size w w'
theorem sz_asm (A : Option Addr) (n c : Nat) (A2 : Option Addr) (m d : Nat) (ps : List Dat) (w : World) (hp : Sl w w.heap.size A2 (dats ps)) (hm : ps.length = m) (hn2 : n ≤ 9223372036854775807) (hm2 : m ≤ 9223372036854775807) (ht : Dats ps) :
    Calls Try.prog 15 #[.agg #[.slice A n c, .slice A2 m d], .int .i64 1048576] w (SzA n m w) := by
  have HP := Lib.hid hp; have HM := Lib.hid hm; have HT := Lib.hid ht; clear hp hm ht
  by_cases hbig : 1048576 < n
  · go_enter Try.func15, Try.ntmps15
    go_wp2_with (go_at_call 35; refine (sz_ints _ _ _ _ _ (by omega) hn2).mono ?_; rintro e w' ⟨rfl, rfl⟩)
    go_ret
    exact ⟨_, rfl, .inl rfl, by go_grown⟩
  · have h' : ¬ (1048576 : Int) < n := by omega
    have h'' : ¬ (1048576 : Int) - n < 0 := by omega
    go_enter Try.func15, Try.ntmps15
    go_wp2_with (go_at_call 35; refine (sz_ints _ _ _ _ _ (by omega) hn2).mono ?_; rintro e w' ⟨rfl, rfl⟩)
    refine (sz_dats _ _ _ ps _ _ (by omega) ((HP.out.alloc (Nat.le_refl _) _).more (by simp)) HM.out hm2 HT.out).mono ?_
    rintro e w1 ⟨r, rfl, hr, b1'⟩
    obtain ⟨q1, z1, b1⟩ := boxed b1'
    have B1 := Lib.hid b1
    clear b1 b1' q1
    rcases hr with rfl | ⟨r1, r2, r3⟩
    · go_wp2
      go_ret
      exact ⟨_, rfl, .inl rfl, B1.out⟩
    · have hr0 : ¬ r < 0 := by omega
      go_wp2
      go_ret
      exact ⟨_, rfl, .inr ⟨r1, r2, by omega, r3⟩, B1.out⟩
def MadeAsm (zs : List Int) (ps : List Dat) (n m : Nat) (w : World) (e : Ending) (w' : World) : Prop :=
  ∃ A c A2 c2, e = .returned (.agg #[.slice A n c, .slice A2 m c2]) ∧ Own w' w.heap.size 3 1 A n c (ints zs) ∧ Own w' w.heap.size 45 7 A2 m c2 (dats ps) ∧ Below w.heap.size w w'
set_option maxHeartbeats 800000 in
theorem to_asm (A : Option Addr) (n c : Nat) (zs : List Int) (A2 : Option Addr) (m d : Nat) (ps : List Dat) (w : World) (hs : Sl w w.heap.size A (ints zs)) (hp : Sl w w.heap.size A2 (dats ps)) (hn : zs.length = n) (hm : ps.length = m) (hn2 : n ≤ 1048576) (hm2 : m ≤ 1048576) :
    Calls Try.prog 18 #[.agg #[.slice A n c, .slice A2 m d]] w (MadeAsm zs ps n m w) := by
  have HS := Lib.hid hs; have HN := Lib.hid hn; have HP := Lib.hid hp; have HM := Lib.hid hm; clear hs hn hp hm
  go_enter Try.func18, Try.ntmps18
  go_wp2_with fail
  refine (to_ints _ _ _ zs _ (((HS.out.alloc (Nat.le_refl _) _).alloc (by simp) _).alloc (by simp; omega) _ |>.more (by simp; omega)) HN.out hn2).mono ?_
  rintro e w1 ⟨A1, c1, rfl, o1, b1'⟩
  obtain ⟨q1, q2, q3, z1, b1⟩ := boxed3 b1'
  have x0 := q1.get 0 rfl
  have x1 := q1.get 1 rfl
  have y0 := q3.get 0 rfl
  have y1 := q3.get 1 rfl
  have g0 := q3.frozen 0
  have g1 := q3.frozen 1
  have l1 := q1.lt
  have l3 := q3.lt
  simp only [World.size_alloc] at o1
  have O1 := Lib.hid o1
  have Q1 := Lib.hid q1
  have Q2 := Lib.hid q2
  have Q3 := Lib.hid q3
  have B1 := Lib.hid b1
  clear q1 q2 q3 b1' o1 b1
  go_wp2_with fail
  refine (to_dats _ _ _ ps _ (((HP.out.below B1.out (Nat.le_refl _)).setCell (by show w.heap.size ≤ w.heap.size + 2; omega) _).more (by simp; omega)) HM.out hm2).mono ?_
  rintro e w2 ⟨A3, c3, rfl, o3, b3⟩
  simp only [World.size_setCell] at o3 b3
  have Q3' := Lib.hid ((Q3.out.set_ 0 (.slice A1 n c1)).below b3 l3)
  have Q2' := Lib.hid ((Q2.out.far (p := ⟨w.heap.size + 2, 0, none⟩) (by simp) (.slice A1 n c1)).below b3 Q2.out.lt)
  have O1' := Lib.hid ((O1.out.setLow (p := ⟨w.heap.size + 2, 0, none⟩) (by simp) (.slice A1 n c1)).below b3 (by simp))
  have B3 := Lib.hid (bstep (B1.out.setCell (p := ⟨w.heap.size + 2, 0, none⟩) (by first | (simp; done) | (simp; omega)) (.slice A1 n c1)) b3 (by omega))
  have O3 := Lib.hid o3
  clear x0 x1 y0 y1 g0 g1
  have y0 : w2.cell? ⟨w.heap.size + 2, 0, none⟩ = some (.slice A1 n c1) := Q3'.out.get 0 rfl
  have y1 : w2.cell? ⟨w.heap.size + 2, 1, none⟩ = some (.slice none 0 0) := Q3'.out.get 1 rfl
  have g0 := Q3'.out.frozen 0
  have g1 := Q3'.out.frozen 1
  have v0 : w2.cell? ⟨w.heap.size + 1, 0, none⟩ = some (.slice none 0 0) := Q2'.out.get 0 rfl
  have v1 : w2.cell? ⟨w.heap.size + 1, 1, none⟩ = some (.slice none 0 0) := Q2'.out.get 1 rfl
  have f0 := Q2'.out.frozen 0
  have f1 := Q2'.out.frozen 1
  clear o3 b3
  go_wp2
  refine bodyPost_ret (v := .agg #[.slice A1 n c1, .slice A3 m c3]) (by simp [results, Try.results18, go_sem, v0, v1]) rfl ?_
  have h1 := O1'.out
  have h3 := O3.out
  exact ⟨_, _, _, _, rfl, (((h1.setLow (by simp) _).setLow (by first | (simp; done) | (simp; omega)) _).setLow (by first | (simp; done) | (simp; omega)) _).lower (by omega), (((h3.setLow (by first | (simp; done) | (simp; omega)) _).setLow (by first | (simp; done) | (simp; omega)) _).setLow (by first | (simp; done) | (simp; omega)) _).lower (by omega), ((B3.out.setCell (by first | (simp; done) | (simp; omega)) _).setCell (by simp) _).setCell (by simp) _⟩
theorem eq_asm (A B : Option Addr) (n c c' : Nat) (zs : List Int) (A2 B2 : Option Addr) (m d d' : Nat) (ps : List Dat) (w : World) (hA : Sl w w.heap.size A (ints zs)) (hB : Sl w w.heap.size B (ints zs)) (hA2 : Sl w w.heap.size A2 (dats ps)) (hB2 : Sl w w.heap.size B2 (dats ps)) (hn : zs.length = n) (hm : ps.length = m) (hn2 : n ≤ 9223372036854775807) (hm2 : m ≤ 9223372036854775807) :
    Calls Try.prog 21 #[.agg #[.slice A n c, .slice A2 m d], .agg #[.slice B n c', .slice B2 m d']] w fun e w' => e = .returned (.bool true) ∧ Below w.heap.size w w' := by
  have HA := Lib.hid hA; have HB := Lib.hid hB; have HN := Lib.hid hn; have HA2 := Lib.hid hA2; have HB2 := Lib.hid hB2; have HM := Lib.hid hm; clear hA hB hn hA2 hB2 hm
  go_enter Try.func21, Try.ntmps21
  go_wp2_with fail
  refine (eq_ints _ _ _ _ _ zs _ (((HA.out.alloc (Nat.le_refl _) _).alloc (by simp) _).more (by simp; omega)) (((HB.out.alloc (Nat.le_refl _) _).alloc (by simp) _).more (by simp; omega)) HN.out hn2).mono ?_
  rintro e w1 ⟨rfl, k, rfl⟩
  go_wp2_with fail
  refine (eq_dats _ _ _ _ _ ps _ (((HA2.out.alloc (Nat.le_refl _) _).alloc (by simp) _).drewN _ |>.more (by simp; omega)) (((HB2.out.alloc (Nat.le_refl _) _).alloc (by simp) _).drewN _ |>.more (by simp; omega)) HM.out hm2).mono ?_
  rintro e w2 ⟨rfl, b2⟩
  go_wp2
  go_ret
  exact ⟨rfl, bstep (below_drewN (((Below.refl _ w).alloc (Nat.le_refl _) _).alloc (by simp) _) _) b2 (by simp; omega)⟩
end Go.Proofs.Ytkhaodbcnnlhaaa
