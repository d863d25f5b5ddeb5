/-
  The walk of 'FnAsmNew'. Condition: the code is a slice of bytes.
-/
import Derived.Test.YtgljbbdhhgamjaaAsmE
import Derived.Test.YtgljbbdhhgamjaaDraw
import Derived.Test.YtgljbbdhhgamjaaFrame
namespace Go.Proofs.Ytgljbbdhhgamjaa
open Go.ChangeShapes Go.WideShapes Go.ChangeAt Go.RowKit
set_option linter.unusedVariables false
set_option linter.unusedSimpArgs false
set_option maxHeartbeats 1600000 in
set_option maxRecDepth 100000 in
theorem walkFnAsmNew (A : Option Addr) (n c : Nat) (w : World) (h : Bts w A n c) :
    Calls Try.prog 3 #[.slice A n c] w fun e w' => e = .returned (.bool true) ∧ Below w.heap.size w w' := by
  have hle := h.le
  have H := Lib.hid h; clear h
  by_cases hn : 1048576 < n
  · go_enter Try.func3, Try.ntmps3
    go_wp2
    go_ret
    exact ⟨rfl, Below.refl _ _⟩
  · go_enter Try.func3, Try.ntmps3
    go_wp2_with fail
    refine (draw_asm _ _ _ _ H.out).mono ?_
    rintro e w1 ⟨r, rfl, r1, r2, b1⟩
    have s1 := b1.size
    have B1 := Lib.hid b1
    have le1 : w.heap.size ≤ w1.heap.size := by simpa using s1
    clear s1
    clear b1
    obtain ⟨n1, ok, hn4, hok, hdec, hi, hs⟩ := iasm_new r
    clear hdec
    have IC := Lib.hid hi
    have SC := Lib.hid hs
    have HN : (List.replicate n1 (0 : Int)).length = n1 := List.length_replicate
    have HL := Lib.hid HN
    clear hi hs HN
    have HOK := Lib.hid hok
    clear hok
    cases ok with
    | false =>
      go_wp2_with fail
      refine (IC.out _).mono ?_
      rintro e w2 ⟨A2, c2, B2', d2, rfl, o2, b2⟩
      have s2 := b2.size
      have B2 := Lib.hid (bstep B1.out b2 B1.out.size)
      have le2 : w1.heap.size ≤ w2.heap.size := by simpa using s2
      clear s2
      have Og_2 := Lib.hid o2
      clear b2 o2
      go_wp2_with fail
      refine (SC.out _).mono ?_
      rintro e w3 ⟨A3, c3, B3', d3, rfl, o3, b3'⟩
      obtain ⟨q3_0, z3, b3⟩ := boxed b3'
      have Og_3 := Lib.hid (Og_2.out.below b3 (Nat.le_refl _))
      have s3 := b3.size
      have B3 := Lib.hid (bstep B2.out b3 B2.out.size)
      have le3 : w2.heap.size ≤ w3.heap.size := by simpa using s3
      clear s3
      have Qbg_3 := Lib.hid q3_0
      have Ow_3 := Lib.hid o3
      clear b3 b3' q3_0 o3
      have lbg : w2.heap.size < w3.heap.size := Qbg_3.out.lt
      have cbg0 : w3.cell? ⟨w2.heap.size, 0, none⟩ = some (.slice A2 n1 c2) := Qbg_3.out.get 0 rfl
      have cbg1 : w3.cell? ⟨w2.heap.size, 1, none⟩ = some (.slice B2' 0 d2) := Qbg_3.out.get 1 rfl
      go_wp2_with fail
      refine (same_asm _ _ _ _ _ _ _ _ _ (List.replicate n1 0) _ ((Og_3.out.sl.alloc (Nat.le_refl _) _).more (by simp)) ((Ow_3.out.sl.alloc (Nat.le_refl _) _).more (by simp)) HL.out (by omega)).mono ?_
      rintro e w4 ⟨rfl, b4'⟩
      obtain ⟨q4_0, z4, b4⟩ := boxed b4'
      clear lbg cbg0 cbg1
      have Og_4 := Lib.hid (Og_3.out.below b4 (Nat.le_refl _))
      have Qbg_4 := Lib.hid (Qbg_3.out.below b4 Qbg_3.out.lt)
      have Ow_4 := Lib.hid (Ow_3.out.below b4 (Nat.le_refl _))
      have s4 := b4.size
      have B4 := Lib.hid (bstep B3.out b4 B3.out.size)
      have le4 : w3.heap.size ≤ w4.heap.size := by simpa using s4
      clear s4
      have Qbw_4 := Lib.hid q4_0
      clear b4 b4' q4_0
      have lbg : w2.heap.size < w4.heap.size := Qbg_4.out.lt
      have cbg0 : w4.cell? ⟨w2.heap.size, 0, none⟩ = some (.slice A2 n1 c2) := Qbg_4.out.get 0 rfl
      have cbg1 : w4.cell? ⟨w2.heap.size, 1, none⟩ = some (.slice B2' 0 d2) := Qbg_4.out.get 1 rfl
      have lbw : w3.heap.size < w4.heap.size := Qbw_4.out.lt
      have cbw0 : w4.cell? ⟨w3.heap.size, 0, none⟩ = some (.slice A3 n1 c3) := Qbw_4.out.get 0 rfl
      have cbw1 : w4.cell? ⟨w3.heap.size, 1, none⟩ = some (.slice B3' 0 d3) := Qbw_4.out.get 1 rfl
      go_wp2_with fail
      refine (same_asm _ _ _ _ _ _ _ _ _ (List.replicate n1 0) _ Og_4.out.sl Ow_4.out.sl HL.out (by omega)).mono ?_
      rintro e w5 ⟨rfl, b5⟩
      clear lbg cbg0 cbg1 lbw cbw0 cbw1
      have Og_5 := Lib.hid (Og_4.out.below b5 (Nat.le_refl _))
      have Qbg_5 := Lib.hid (Qbg_4.out.below b5 Qbg_4.out.lt)
      have Ow_5 := Lib.hid (Ow_4.out.below b5 (Nat.le_refl _))
      have Qbw_5 := Lib.hid (Qbw_4.out.below b5 Qbw_4.out.lt)
      have s5 := b5.size
      have B5 := Lib.hid (bstep B4.out b5 B4.out.size)
      have le5 : w4.heap.size ≤ w5.heap.size := by simpa using s5
      clear s5
      clear b5
      go_wp2
      go_ret
      exact ⟨rfl, B5.out⟩
    | true =>
      obtain ⟨h1, rfl⟩ := HOK.out rfl
      clear HOK
      go_wp2_with fail
      refine (IC.out _).mono ?_
      rintro e w2 ⟨A2, c2, B2', d2, rfl, o2, b2⟩
      have s2 := b2.size
      have B2 := Lib.hid (bstep B1.out b2 B1.out.size)
      have le2 : w1.heap.size ≤ w2.heap.size := by simpa using s2
      clear s2
      have Og_2 := Lib.hid o2
      clear b2 o2
      go_wp2_with fail
      refine (SC.out _).mono ?_
      rintro e w3 ⟨A3, c3, B3', d3, rfl, o3, b3'⟩
      obtain ⟨q3_0, z3, b3⟩ := boxed b3'
      have Og_3 := Lib.hid (Og_2.out.below b3 (Nat.le_refl _))
      have s3 := b3.size
      have B3 := Lib.hid (bstep B2.out b3 B2.out.size)
      have le3 : w2.heap.size ≤ w3.heap.size := by simpa using s3
      clear s3
      have Qbg_3 := Lib.hid q3_0
      have Ow_3 := Lib.hid o3
      clear b3 b3' q3_0 o3
      have lbg : w2.heap.size < w3.heap.size := Qbg_3.out.lt
      have cbg0 : w3.cell? ⟨w2.heap.size, 0, none⟩ = some (.slice A2 n1 c2) := Qbg_3.out.get 0 rfl
      have cbg1 : w3.cell? ⟨w2.heap.size, 1, none⟩ = some (.slice B2' 0 d2) := Qbg_3.out.get 1 rfl
      go_wp2_with fail
      refine (same_asm _ _ _ _ _ _ _ _ _ (List.replicate n1 0) _ ((Og_3.out.sl.alloc (Nat.le_refl _) _).more (by simp)) ((Ow_3.out.sl.alloc (Nat.le_refl _) _).more (by simp)) HL.out (by omega)).mono ?_
      rintro e w4 ⟨rfl, b4'⟩
      obtain ⟨q4_0, z4, b4⟩ := boxed b4'
      clear lbg cbg0 cbg1
      have Og_4 := Lib.hid (Og_3.out.below b4 (Nat.le_refl _))
      have Qbg_4 := Lib.hid (Qbg_3.out.below b4 Qbg_3.out.lt)
      have Ow_4 := Lib.hid (Ow_3.out.below b4 (Nat.le_refl _))
      have s4 := b4.size
      have B4 := Lib.hid (bstep B3.out b4 B3.out.size)
      have le4 : w3.heap.size ≤ w4.heap.size := by simpa using s4
      clear s4
      have Qbw_4 := Lib.hid q4_0
      clear b4 b4' q4_0
      have lbg : w2.heap.size < w4.heap.size := Qbg_4.out.lt
      have cbg0 : w4.cell? ⟨w2.heap.size, 0, none⟩ = some (.slice A2 n1 c2) := Qbg_4.out.get 0 rfl
      have cbg1 : w4.cell? ⟨w2.heap.size, 1, none⟩ = some (.slice B2' 0 d2) := Qbg_4.out.get 1 rfl
      have lbw : w3.heap.size < w4.heap.size := Qbw_4.out.lt
      have cbw0 : w4.cell? ⟨w3.heap.size, 0, none⟩ = some (.slice A3 n1 c3) := Qbw_4.out.get 0 rfl
      have cbw1 : w4.cell? ⟨w3.heap.size, 1, none⟩ = some (.slice B3' 0 d3) := Qbw_4.out.get 1 rfl
      go_wp2
      go_loopw [8] (fun i wr => ∃ (k m : Nat), k ≤ n1 ∧ i = .int .i64 k ∧ wr = w4.drewN m) (fun i _ => n1 - (intOf i).toNat)
      case atStart => exact ⟨0, 0, by omega, rfl, rfl⟩
      case round =>
        obtain ⟨k, m, hk, rfl, rfl⟩ := hrel
        by_cases hlt : k < n1
        · obtain ⟨b, off, rfl, hbl, hc⟩ := Og_4.out.sl.at_ (j := k) (by rw [ints_len, List.length_replicate]; exact hlt)
          have e1 : w4.cell? ⟨b, off + k, none⟩ = some (.int .i64 0) := hc k _ (ints_at_ (by rw [List.getElem?_replicate, if_pos hlt]))
          have hk0 : (0 : Int) ≤ (k : Int) := by omega
          have hk1 : (k : Int) < (n1 : Int) := by omega
          clear hc hbl
          go_wp2
          go_roundw
          case rel => exact ⟨k + 1, m, by omega, by go_num, rfl⟩
          case measure => simp [intOf]; omega
        · go_wp2_with fail
          refine (iasm_fresh _ _ _ _ _ _ (Og_4.out.drewN m).sl h1 hn4).mono ?_
          rintro e w9 ⟨rfl, b9⟩
          have Q9 := Lib.hid ((Qbg_4.out.drewN m).below b9 Qbg_4.out.lt)
          have y0 : w9.cell? ⟨w2.heap.size, 0, none⟩ = some (.slice A2 n1 c2) := Q9.out.get 0 rfl
          have y1 : w9.cell? ⟨w2.heap.size, 1, none⟩ = some (.slice B2' 0 d2) := Q9.out.get 1 rfl
          have B9 := Lib.hid (bstep (below_drewN B4.out m) b9 B4.out.size)
          clear b9 cbg0 cbg1 cbw0 cbw1
          go_wp2
          go_ret
          exact ⟨rfl, B9.out⟩
end Go.Proofs.Ytgljbbdhhgamjaa
