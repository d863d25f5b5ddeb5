/-
  What the drawing functions of this seat's laws return. Condition: the code is a slice of bytes.
-/
import Derived.Test.YtgljbbdhhgamjaaPick
import Derived.Test.YtgljbbdhhgamjaaNum
import Derived.Test.YtgljbbdhhgamjaaOwn
namespace Go.Proofs.Ytgljbbdhhgamjaa
open Go.ChangeShapes Go.WideShapes Go.ChangeAt Go.RowKit
set_option linter.unusedVariables false

/-! ### The code that a law draws from -/
def Bts (w : World) (A : Option Addr) (n c : Nat) : Prop :=
  n ≤ c ∧ c ≤ maxLen ∧ ∃ zs : List Int, zs.length = n ∧ Sl w w.heap.size A (zs.map (Value.int .u8)) ∧ ∀ z ∈ zs, 0 ≤ z ∧ z ≤ 255
theorem Bts.le {w : World} {A : Option Addr} {n c : Nat} (h : Bts w A n c) : n ≤ 9223372036854775807 := by have h1 := h.1; have h2 := h.2.1; unfold maxLen at h2; omega
theorem Bts.below {w w' : World} {A : Option Addr} {n c : Nat} (h : Bts w A n c) (hb : Below w.heap.size w w') : Bts w' A n c :=
  let ⟨h1, h2, zs, h3, h4, h5⟩ := h; ⟨h1, h2, zs, h3, (h4.below hb (Nat.le_refl _)).more hb.size, h5⟩
theorem opened (A : Option Addr) (n c : Nat) (w : World) (h : Bts w A n c) :
    Calls Try.prog 48 #[.slice A n c] w fun e w' => e = .returned (.pointer (some ⟨w.heap.size, 0, none⟩)) ∧ RdB w' w.heap.size 0 ∧ Below w.heap.size w w' ∧ w'.heap.size = w.heap.size + 1 :=
  let ⟨h1, h2, zs, h3, h4, h5⟩ := h; open_any A n c zs w h4 h3 h1 h2 h5
def DrawInt (lo hi : Int) (w : World) (e : Ending) (w' : World) : Prop := ∃ k : Int, e = .returned (.int .i64 k) ∧ lo ≤ k ∧ k ≤ hi ∧ Below w.heap.size w w'
theorem draw_asm (A : Option Addr) (n c : Nat) (w : World) (h : Bts w A n c) : Calls Try.prog 11 #[.slice A n c] w (DrawInt (-1) 5 w) := by
  have H := Lib.hid h; clear h
  go_enter Try.func11, Try.ntmps11
  go_wp2_with fail
  refine (opened _ _ _ _ H.out).mono ?_
  rintro e w1 ⟨rfl, r1, b1, s1⟩
  have S1 := Lib.hid s1; clear s1
  go_wp2_with fail
  refine (pick_any _ _ _ _ r1 (by omega)).mono ?_
  rintro e w2 ⟨k, rfl, k1, k2, k3, r2, b2, s2⟩
  have k4 := k2 (by omega)
  clear k2 k3
  have S2 := Lib.hid s2; clear s2
  go_wp2
  go_ret
  exact ⟨_, rfl, by omega, by omega, b1.grown b2 b1.size (fun k hk => by injection hk; omega)⟩

/-! ### Numbers from a reader -/
def PickP (n : Int) (g L : Nat) (w : World) (e : Ending) (w' : World) : Prop :=
  ∃ k : Int, e = .returned (.int .i64 k) ∧ 0 ≤ k ∧ k < n ∧ RdB w' g (L + 1) ∧ w.grownBy w' (some g) ∧ w'.heap.size = w.heap.size
theorem pick_pos (n : Int) (g : Nat) (w : World) (L : Nat) (hr : RdB w g L) (hL : L ≤ 1000000) (hn : 1 ≤ n) :
    Calls Try.prog 49 #[.pointer (some ⟨g, 0, none⟩), .int .i64 n] w (PickP n g L w) :=
  (pick_any n g w L hr hL).mono fun _ _ ⟨k, he, h0, h1, _, h3, h4, h5⟩ => ⟨k, he, h0, h1 hn, h3, h4, h5⟩
/-- A number in a range, drawn by at most K picks. -/
def NumP (lo hi : Int) (g L : Nat) (w : World) (e : Ending) (w' : World) : Prop :=
  ∃ k : Int, e = .returned (.int .i64 k) ∧ lo ≤ k ∧ k ≤ hi ∧ RdB w' g L ∧ w.grownBy w' (some g)
theorem lit_get {w : World} {g : Nat} {t : TypeId} (zs : List Int) (q : Blk w g (zs.map (Value.int .i64)).toArray t) (k : Int) (h0 : 0 ≤ k) (h1 : k < zs.length) : ∃ v, v ∈ zs ∧ w.cell? ⟨g, k.toNat, none⟩ = some (.int .i64 v) := by
  have hk : k.toNat < zs.length := by omega
  refine ⟨zs[k.toNat], List.getElem_mem _, q.get _ ?_⟩
  rw [List.getElem?_toArray, List.getElem?_map, List.getElem?_eq_getElem hk]
  rfl
end Go.Proofs.Ytgljbbdhhgamjaa
