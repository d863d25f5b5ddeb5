/-
  New assemblies: comparisons, marks, and that they are valid. Conditions: those that each theorem bears.
-/
import Derived.Test.YtgljbbdhhgamjaaSeenE
import Derived.Test.YtgljbbdhhgamjaaAsmNew
import Derived.Test.YtgljbbdhhgamjaaSame
namespace Go.Proofs.Ytgljbbdhhgamjaa
open Go.ChangeShapes Go.WideShapes Go.ChangeAt Go.RowKit
set_option linter.unusedVariables false
set_option linter.unusedSimpArgs false

abbrev asmV (A : Option Addr) (n c : Nat) (B : Option Addr) (d : Nat) : Value := .agg #[.slice A n c, .slice B 0 d]
def AsmR (n : Nat) (ok : Bool) (w : World) (e : Ending) (w' : World) : Prop :=
  ∃ A c B d, e = .returned (.tuple #[asmV A n c B d, .bool ok]) ∧ Own w' w.heap.size 3 1 A n c (ints (List.replicate n 0)) ∧ Below w.heap.size w w'
theorem iasm_new (r : Int) : ∃ (n : Nat) (ok : Bool), n ≤ 4 ∧ (ok = true → 1 ≤ n ∧ r = n) ∧ (ok = decide (1 ≤ r ∧ r ≤ 4)) ∧ (∀ w, Calls Try.prog 12 #[.int .i64 r] w (AsmR n ok w)) ∧ (∀ w, Calls Try.prog 13 #[.int .i64 r] w (AsmR n ok w)) := by
  by_cases hr : 1 ≤ r ∧ r ≤ 4
  · obtain ⟨k, rfl⟩ := Int.eq_ofNat_of_zero_le (show 0 ≤ r by omega)
    refine ⟨k, true, by omega, fun _ => ⟨by omega, rfl⟩, by rw [decide_eq_true hr], fun w => ?_, fun w => ?_⟩
    · exact (iasm_yes k (by omega) (by omega) w).mono fun _ _ ⟨A, c, B, d, h1, h2, _, h3⟩ => ⟨A, c, B, d, h1, h2, h3⟩
    · exact (sasm_yes k (by omega) (by omega) w).mono fun _ _ ⟨A, c, B, d, h1, h2, _, h3⟩ => ⟨A, c, B, d, h1, h2, h3⟩
  · refine ⟨0, false, by omega, (fun h => by cases h), by rw [decide_eq_false hr], fun w => ?_, fun w => ?_⟩
    · exact (iasm_no r (by omega) w).mono fun _ _ ⟨h1, h2⟩ => ⟨none, 0, none, 0, h1, Own.nil _ _ _ _, h2⟩
    · exact (sasm_no r (by omega) w).mono fun _ _ ⟨h1, h2⟩ => ⟨none, 0, none, 0, h1, Own.nil _ _ _ _, h2⟩
theorem same_asm (A B A' B' : Option Addr) (n c d c' d' : Nat) (zs : List Int) (w : World) (hA : Sl w w.heap.size A (ints zs)) (hB : Sl w w.heap.size A' (ints zs)) (hn : zs.length = n) (hm : n ≤ 9223372036854775807) :
    Calls Try.prog 14 #[asmV A n c B d, asmV A' n c' B' d'] w fun e w' => e = .returned (.bool true) ∧ Below w.heap.size w w' := by
  have HA := Lib.hid hA; have HB := Lib.hid hB; have HN := Lib.hid hn; clear hA hB hn
  go_enter Try.func14, Try.ntmps14
  go_wp2_with fail
  refine (same_ints _ _ _ _ _ zs _ (((HA.out.alloc (Nat.le_refl _) _).alloc (by simp) _).more (by simp; omega)) (((HB.out.alloc (Nat.le_refl _) _).alloc (by simp) _).more (by simp; omega)) HN.out hm).mono ?_
  rintro e w1 ⟨rfl, m, rfl⟩
  go_wp2_with fail
  refine (same_parts_nil _ _ _ _ _).mono ?_
  rintro e w1 ⟨rfl, m', rfl⟩
  go_wp2
  go_ret
  exact ⟨rfl, below_drewN (((Below.refl _ w).alloc (Nat.le_refl _) _).alloc (by simp) _) _⟩
set_option maxHeartbeats 800000 in
theorem eq_asm (A B A' B' : Option Addr) (n c d c' d' : Nat) (zs : List Int) (w : World) (hA : Sl w w.heap.size A (ints zs)) (hB : Sl w w.heap.size A' (ints zs)) (hn : zs.length = n) (hm : n ≤ 9223372036854775807) :
    Calls Try.prog 31 #[asmV A n c B d, asmV A' n c' B' d'] w fun e w' => e = .returned (.bool true) ∧ Below w.heap.size w w' := by
  have HA := Lib.hid hA; have HB := Lib.hid hB; have HN := Lib.hid hn; clear hA hB hn
  have ED : ∀ (B B' : Option Addr) (d d' : Nat) (w : World), Calls Try.prog 21 #[.slice B 0 d, .slice B' 0 d'] w fun e w' => e = .returned (.bool true) ∧ w = w' := by
    intro B B' d d' w
    go_enter Try.func21, Try.ntmps21
    go_wp2
    go_rounds 1
    go_ret
    exact ⟨rfl, rfl⟩
  have HED := Lib.hid ED
  clear ED
  go_enter Try.func31, Try.ntmps31
  go_wp2_with fail
  refine (eq_ints _ _ _ _ _ zs _ (((HA.out.alloc (Nat.le_refl _) _).alloc (by simp) _).more (by simp; omega)) (((HB.out.alloc (Nat.le_refl _) _).alloc (by simp) _).more (by simp; omega)) HN.out hm).mono ?_
  rintro e w1 ⟨rfl, m, rfl⟩
  go_wp2_with fail
  refine (HED.out _ _ _ _ _).mono ?_
  rintro e w1 ⟨rfl, rfl⟩
  go_wp2
  go_ret
  exact ⟨rfl, below_drewN (((Below.refl _ w).alloc (Nat.le_refl _) _).alloc (by simp) _) _⟩
set_option maxHeartbeats 800000 in
theorem mark_asm (A B : Option Addr) (n c d : Nat) (k : Int) (base : Nat) (zs : List Int) (w : World) (ho : Own w base 3 1 A n c (ints zs)) (hk : 0 ≤ k ∧ k ≤ 1000) (hm : n ≤ 1000) :
    Calls Try.prog 32 #[asmV A n c B d, .int .i64 k] w (MarkPost A n c k base w) := by
  have HO := Lib.hid ho; clear ho
  have MD : ∀ (B : Option Addr) (d : Nat) (q : Int) (w : World), Calls Try.prog 22 #[.slice B 0 d, .int .i64 q] w fun e w' => e = .returned (.int .i64 q) ∧ w = w' := by
    intro B d q w
    go_enter Try.func22, Try.ntmps22
    go_wp2
    go_rounds 1
    go_ret
    exact ⟨rfl, rfl⟩
  have HMD := Lib.hid MD
  clear MD
  have hQ0 := Lib.hid (Blk.new w #[.slice A n c, .slice B 0 d] 27)
  go_enter Try.func32, Try.ntmps32
  go_wp2_with fail
  refine (mark_ints _ _ _ _ base zs _ (HO.out.alloc _) (by omega) (by omega)).mono ?_
  rintro e w1 ⟨rfl, o1, row, g1, r1⟩
  have Q1 := Lib.hid (blk_marked hQ0.out (HO.out.alloc _) (by decide) g1 r1)
  have x1 : w1.cell? ⟨w.heap.size, 1, none⟩ = some (.slice B 0 d) := Q1.out.get 1 rfl
  have O1 := Lib.hid o1
  have G1 := Lib.hid g1
  clear o1 g1
  go_wp2_with fail
  refine (HMD.out _ _ _ _).mono ?_
  rintro e w2 ⟨rfl, rfl⟩
  go_wp2
  go_ret
  exact ⟨rfl, O1.out, row, gb_trans (World.grownBy_alloc w _ row) G1.out (fun g e => .inl e), r1⟩
set_option maxHeartbeats 800000 in
theorem held_asm (A B : Option Addr) (n c d : Nat) (k : Int) (w : World) (hA : Sl w w.heap.size A (ints (marks k n))) (hk : 0 ≤ k ∧ k ≤ 1000) (hm : n ≤ 1000) :
    Calls Try.prog 33 #[asmV A n c B d, .int .i64 k] w fun e w' => e = .returned (.int .i64 (k + n)) ∧ Below w.heap.size w w' := by
  have HA := Lib.hid hA; clear hA
  have hk2 : ¬ (k + n < 0) := by omega
  have HD : ∀ (B : Option Addr) (d : Nat) (q : Int) (w : World), Calls Try.prog 70 #[.slice B 0 d, .int .i64 q] w fun e w' => e = .returned (.int .i64 q) ∧ w = w' := by
    intro B d q w
    go_enter Try.func70, Try.ntmps70
    go_wp2
    go_rounds 1
    go_ret
    exact ⟨rfl, rfl⟩
  have HHD := Lib.hid HD
  clear HD
  go_enter Try.func33, Try.ntmps33
  go_wp2_with fail
  refine (held_ints _ _ _ _ _ ((HA.out.alloc (Nat.le_refl _) _).more (by simp)) (by omega) (by omega)).mono ?_
  rintro e w1 ⟨rfl, m, rfl⟩
  go_wp2_with fail
  refine (HHD.out _ _ _ _).mono ?_
  rintro e w2 ⟨rfl, rfl⟩
  go_wp2
  go_ret
  exact ⟨rfl, below_drewN ((Below.refl _ w).alloc (Nat.le_refl _) _) _⟩
set_option maxHeartbeats 800000 in
theorem iasm_fresh (A B : Option Addr) (n c d : Nat) (w : World) (hA : Sl w w.heap.size A (ints (List.replicate n 0))) (h1 : 1 ≤ n) (h4 : n ≤ 4) :
    Calls Try.prog 15 #[asmV A n c B d] w fun e w' => e = .returned (.bool true) ∧ Below w.heap.size w w' := by
  have HA := Lib.hid hA; clear hA
  have Q0 := Lib.hid (Blk.new w #[.slice A n c, .slice B 0 d] 27)
  have OK := Lib.hid (fun w => (by have := ok_any 0 w; exact this : Calls Try.prog 53 #[.int .i64 0] w fun e w' => e = .returned (.bool (okB 0)) ∧ w = w'))
  have hok : okB 0 = true := rfl
  rw [hok] at OK
  go_enter Try.func15, Try.ntmps15
  go_wp2
  go_loopw [26] (fun i wr => ∃ k : Nat, k ≤ n ∧ i = .int .i64 k ∧ Blk wr w.heap.size #[.slice A n c, .slice B 0 d] 27 ∧ Below w.heap.size w wr) (fun i _ => n - (intOf i).toNat)
  case atStart => exact ⟨0, by omega, rfl, Q0.out, by go_grown⟩
  case round =>
    obtain ⟨k, hk, rfl, q, hb⟩ := hrel
    have BR := Lib.hid hb
    have Q := Lib.hid q
    have x1 : wr.cell? ⟨w.heap.size, 1, none⟩ = some (.slice B 0 d) := q.get 1 rfl
    clear hb q
    by_cases hlt : k < n
    · obtain ⟨b, off, rfl, hbl, hc⟩ := ((HA.out.below BR.out (Nat.le_refl _)).more BR.out.size).at_ (j := k) (by rw [ints_len, List.length_replicate]; exact hlt)
      have e1 : wr.cell? ⟨b, off + k, none⟩ = some (.int .i64 0) := hc k _ (ints_at_ (by rw [List.getElem?_replicate, if_pos hlt]))
      clear hc
      go_wp2_with fail
      refine (OK.out _).mono ?_
      rintro e w2 ⟨rfl, rfl⟩
      go_wp2
      go_roundw
      case rel => exact ⟨k + 1, by omega, by go_num, Q.out, BR.out⟩
      case measure => simp [intOf]; omega
    · go_wp2
      go_rounds 1
      go_ret
      exact ⟨rfl, BR.out⟩
end Go.Proofs.Ytgljbbdhhgamjaa
