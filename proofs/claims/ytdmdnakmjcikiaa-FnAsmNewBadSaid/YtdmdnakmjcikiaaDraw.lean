/-
  What the drawing functions of this seat's laws return. Condition: the code is a slice of bytes.
-/
import Derived.Test.YtdmdnakmjcikiaaPick
import Derived.Test.YtdmdnakmjcikiaaNum
namespace Go.Proofs.Ytdmdnakmjcikiaa
open Go.ChangeShapes Go.WideShapes Go.ChangeAt Go.RowKit
set_option linter.unusedVariables false

/-! ### The code that a law draws from -/
def Bts (w : World) (A : Option Addr) (n c : Nat) : Prop :=
  n ≤ c ∧ c ≤ maxLen ∧ ∃ zs : List Int, zs.length = n ∧ Sl w w.heap.size A (zs.map (Value.int .u8)) ∧ ∀ z ∈ zs, 0 ≤ z ∧ z ≤ 255
theorem Bts.le {w : World} {A : Option Addr} {n c : Nat} (h : Bts w A n c) : n ≤ 9223372036854775807 := by have h1 := h.1; have h2 := h.2.1; unfold maxLen at h2; omega
theorem Bts.below {w w' : World} {A : Option Addr} {n c : Nat} (h : Bts w A n c) (hb : Below w.heap.size w w') : Bts w' A n c :=
  let ⟨h1, h2, zs, h3, h4, h5⟩ := h; ⟨h1, h2, zs, h3, (h4.below hb (Nat.le_refl _)).more hb.size, h5⟩
theorem opened (A : Option Addr) (n c : Nat) (w : World) (h : Bts w A n c) :
    Calls Try.prog 29 #[.slice A n c] w fun e w' => e = .returned (.pointer (some ⟨w.heap.size, 0, none⟩)) ∧ RdB w' w.heap.size 0 ∧ Below w.heap.size w w' ∧ w'.heap.size = w.heap.size + 1 :=
  let ⟨h1, h2, zs, h3, h4, h5⟩ := h; open_any A n c zs w h4 h3 h1 h2 h5
def DrawInt (lo hi : Int) (w : World) (e : Ending) (w' : World) : Prop := ∃ k : Int, e = .returned (.int .i64 k) ∧ lo ≤ k ∧ k ≤ hi ∧ Below w.heap.size w w'
theorem draw_rule (A : Option Addr) (n c : Nat) (w : World) (h : Bts w A n c) : Calls Try.prog 11 #[.slice A n c] w (DrawInt (-1) 13 w) := by
  have H := Lib.hid h; clear h
  go_enter Try.func11, Try.ntmps11
  go_wp2_with fail
  refine (opened _ _ _ _ H.out).mono ?_
  rintro e w1 ⟨rfl, r1, b1, s1⟩
  have S1 := Lib.hid s1; clear s1
  go_wp2_with fail
  refine (pick_any _ _ _ _ r1 (by omega)).mono ?_
  rintro e w2 ⟨k, rfl, k1, k2, k3, r2, b2, s2⟩
  have k4 := k2 (by omega)
  clear k2 k3
  have S2 := Lib.hid s2; clear s2
  go_wp2
  go_ret
  exact ⟨_, rfl, by omega, by omega, b1.grown b2 b1.size (fun k hk => by injection hk; omega)⟩
theorem draw_asm (A : Option Addr) (n c : Nat) (w : World) (h : Bts w A n c) : Calls Try.prog 12 #[.slice A n c] w (DrawInt (-1) 5 w) := by
  have H := Lib.hid h; clear h
  go_enter Try.func12, Try.ntmps12
  go_wp2_with fail
  refine (opened _ _ _ _ H.out).mono ?_
  rintro e w1 ⟨rfl, r1, b1, s1⟩
  have S1 := Lib.hid s1; clear s1
  go_wp2_with fail
  refine (pick_any _ _ _ _ r1 (by omega)).mono ?_
  rintro e w2 ⟨k, rfl, k1, k2, k3, r2, b2, s2⟩
  have k4 := k2 (by omega)
  clear k2 k3
  have S2 := Lib.hid s2; clear s2
  go_wp2
  go_ret
  exact ⟨_, rfl, by omega, by omega, b1.grown b2 b1.size (fun k hk => by injection hk; omega)⟩
end Go.Proofs.Ytdmdnakmjcikiaa
