/-
  What DrawCaptureGet and DrawCaptureBegin return; what the laws on bytes of captures need. Condition: the code is a slice of bytes.
-/
import Derived.Test.YtmphkogaclfjmaaDrawR2
import Derived.Test.YtmphkogaclfjmaaDrawG
import Derived.Test.YtmphkogaclfjmaaCapI
import Derived.Test.YtmphkogaclfjmaaCapL
import Derived.Test.YtmphkogaclfjmaaCapG
namespace Go.Proofs.Ytmphkogaclfjmaa
open Go.ChangeShapes Go.WideShapes Go.ChangeAt Go.RowKit
set_option linter.unusedVariables false

theorem begin_txts {s : List UInt8} {l : List Rec} {a : Nat} (h : capBegin s = (l, a)) (ha : a ≠ 0) : Txts l := by
  have := begin_bytes (s := s) (by rw [h]; exact ha)
  rw [h] at this
  exact fun r hr => Nat.le_trans (timesB_mem (capB_true this.2.1).2 r hr).2.2 (by omega)
theorem begin_same {s : ByteArray} {l : List Rec} {a : Nat} (h : capBegin (bl s) = (l, a)) (ha : a ≠ 0) : capPut l = s.extract 0 a := by
  have := begin_put (s := bl s) (by rw [h]; exact ha)
  rw [h] at this
  rw [this]
  exact bl_inj (by rw [bl_mk, bl_extract]; rfl)
theorem get_txts {s : List UInt8} {l : List Rec} (h : capGet s = (l, true)) : Txts l := by
  rcases capGet_cases s with ⟨_, h2, e⟩ | ⟨_, e⟩
  · rw [h] at e
    injection e with e1 _
    obtain ⟨x, n, hx⟩ : ∃ x n, capBegin s = (x, n) := ⟨_, _, rfl⟩
    rw [hx] at e1 h2
    have e1 : l = x := e1
    rw [e1]
    exact begin_txts hx h2
  · rw [h] at e
    injection e with _ e2
    cases e2
theorem put_max2 (l : List Rec) : (capPut l).size ≤ 8000 := by
  by_cases h : capB l = true
  · obtain ⟨h1, h2⟩ := capB_true h
    have := allBytes_len l 0 h2
    rw [capPut_yes h, mk_size, cbytes_len]
    omega
  · rw [capPut_no (by simpa using h)]
    exact Nat.zero_le _
def TextDr (m : Nat) (w : World) (e : Ending) (w' : World) : Prop := ∃ s : ByteArray, e = .returned (.string s) ∧ s.size ≤ m ∧ Below w.heap.size w w'
set_option maxHeartbeats 800000 in
theorem draw_cap_get (A0 : Option Addr) (n0 c0 : Nat) (w : World) (h : Bts w A0 n0 c0) : Calls Try.prog 35 #[.slice A0 n0 c0] w (TextDr 8001 w) := by
  have H := Lib.hid h; clear h
  go_enter Try.func35, Try.ntmps35
  go_wp2_with fail
  refine (opened _ _ _ _ H.out).mono ?_
  rintro e w1 ⟨rfl, r1, b1, s1⟩
  have B1 := Lib.hid b1
  have h1 := r1.lt
  clear b1 s1
  go_wp2_with fail
  refine (recs_drawn _ _ _ r1 (by omega)).mono ?_
  rintro e w2 ⟨A, n, c, l, rfl, hl, hn, ho, o2, r2, g2⟩
  have HL := Lib.hid hl
  have O2 := Lib.hid o2
  have B2 := Lib.hid (B1.out.grown g2 B1.out.size (fun k hk => by injection hk; omega))
  have HO := Lib.hid ho
  have h2 := r2.lt
  clear hl o2 g2 ho
  have hmx := put_max2 l
  have SC := Lib.hid (scap_put A n c l w2 O2.out.sl HL.out (by omega) HO.out.txts)
  generalize capPut l = S at hmx SC
  go_wp2_with fail
  refine SC.out.mono ?_
  rintro e w3 ⟨rfl, b3⟩
  have r3 := r2.below b3 (Nat.le_refl _)
  have B3 := Lib.hid (bstep B2.out b3 B2.out.size)
  clear b3 SC
  go_wp2_with fail
  refine (spoil_any _ _ _ _ r3 (by omega) (by omega)).mono ?_
  rintro e w4 ⟨s, rfl, hsz, r4, g4⟩
  have B4 := Lib.hid (B3.out.grown g4 B3.out.size (fun k hk => by injection hk; omega))
  clear g4 r4
  go_wp2
  go_ret
  exact ⟨s, rfl, by omega, B4.out⟩
theorem draw_cap_begin (A0 : Option Addr) (n0 c0 : Nat) (w : World) (h : Bts w A0 n0 c0) : Calls Try.prog 33 #[.slice A0 n0 c0] w (TextDr 8001 w) := by
  have H := Lib.hid h; clear h
  go_enter Try.func33, Try.ntmps33
  go_wp2_with fail
  refine (draw_cap_get _ _ _ _ H.out).mono ?_
  rintro e w1 ⟨s, rfl, hs, b⟩
  go_wp2
  go_ret
  exact ⟨s, rfl, hs, b⟩
end Go.Proofs.Ytmphkogaclfjmaa
