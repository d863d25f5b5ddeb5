/-
  What the drawing functions of this seat's laws return. Condition: the code is a slice of bytes.
-/
import Derived.Test.YthmbapmakihmaaaPick
import Derived.Test.YthmbapmakihmaaaNum
import Derived.Test.YthmbapmakihmaaaOwn
namespace Go.Proofs.Ythmbapmakihmaaa
open Go.ChangeShapes Go.WideShapes Go.ChangeAt Go.RowKit
set_option linter.unusedVariables false

/-! ### The code that a law draws from -/
def Bts (w : World) (A : Option Addr) (n c : Nat) : Prop :=
  n ≤ c ∧ c ≤ maxLen ∧ ∃ zs : List Int, zs.length = n ∧ Sl w w.heap.size A (zs.map (Value.int .u8)) ∧ ∀ z ∈ zs, 0 ≤ z ∧ z ≤ 255
theorem Bts.le {w : World} {A : Option Addr} {n c : Nat} (h : Bts w A n c) : n ≤ 9223372036854775807 := by have h1 := h.1; have h2 := h.2.1; unfold maxLen at h2; omega
theorem Bts.below {w w' : World} {A : Option Addr} {n c : Nat} (h : Bts w A n c) (hb : Below w.heap.size w w') : Bts w' A n c :=
  let ⟨h1, h2, zs, h3, h4, h5⟩ := h; ⟨h1, h2, zs, h3, (h4.below hb (Nat.le_refl _)).more hb.size, h5⟩
theorem opened (A : Option Addr) (n c : Nat) (w : World) (h : Bts w A n c) :
    Calls Try.prog 11 #[.slice A n c] w fun e w' => e = .returned (.pointer (some ⟨w.heap.size, 0, none⟩)) ∧ RdB w' w.heap.size 0 ∧ Below w.heap.size w w' ∧ w'.heap.size = w.heap.size + 1 :=
  let ⟨h1, h2, zs, h3, h4, h5⟩ := h; open_any A n c zs w h4 h3 h1 h2 h5
def DrawInt (lo hi : Int) (w : World) (e : Ending) (w' : World) : Prop := ∃ k : Int, e = .returned (.int .i64 k) ∧ lo ≤ k ∧ k ≤ hi ∧ Below w.heap.size w w'

/-! ### Numbers from a reader -/
def PickP (n : Int) (g L : Nat) (w : World) (e : Ending) (w' : World) : Prop :=
  ∃ k : Int, e = .returned (.int .i64 k) ∧ 0 ≤ k ∧ k < n ∧ RdB w' g (L + 1) ∧ w.grownBy w' (some g) ∧ w'.heap.size = w.heap.size
theorem pick_pos (n : Int) (g : Nat) (w : World) (L : Nat) (hr : RdB w g L) (hL : L ≤ 1000000) (hn : 1 ≤ n) :
    Calls Try.prog 18 #[.pointer (some ⟨g, 0, none⟩), .int .i64 n] w (PickP n g L w) :=
  (pick_any n g w L hr hL).mono fun _ _ ⟨k, he, h0, h1, _, h3, h4, h5⟩ => ⟨k, he, h0, h1 hn, h3, h4, h5⟩
/-- A number in a range, drawn by at most K picks. -/
def NumP (lo hi : Int) (g L : Nat) (w : World) (e : Ending) (w' : World) : Prop :=
  ∃ k : Int, e = .returned (.int .i64 k) ∧ lo ≤ k ∧ k ≤ hi ∧ RdB w' g L ∧ w.grownBy w' (some g)
theorem lit_get {w : World} {g : Nat} {t : TypeId} (zs : List Int) (q : Blk w g (zs.map (Value.int .i64)).toArray t) (k : Int) (h0 : 0 ≤ k) (h1 : k < zs.length) : ∃ v, v ∈ zs ∧ w.cell? ⟨g, k.toNat, none⟩ = some (.int .i64 v) := by
  have hk : k.toNat < zs.length := by omega
  refine ⟨zs[k.toNat], List.getElem_mem _, q.get _ ?_⟩
  rw [List.getElem?_toArray, List.getElem?_map, List.getElem?_eq_getElem hk]
  rfl
theorem word_any (g : Nat) (w : World) (L : Nat) (hr : RdB w g L) (hL : L ≤ 900000) : Calls Try.prog 19 #[.pointer (some ⟨g, 0, none⟩)] w (NumP (-1) 65536 g (L + 4) w) := by
  go_enter Try.func19, Try.ntmps19
  go_wp2_with fail
  refine (pick_pos _ _ _ _ hr (by omega) (by omega)).mono ?_
  rintro e w1 ⟨k, rfl, k0, k1, r1, g1, s1⟩
  have G1 := Lib.hid g1
  have S1 := Lib.hid s1
  clear g1 s1
  by_cases h0 : k = 0
  · subst h0
    go_wp2_with fail
    refine (pick_pos _ _ _ _ (r1.alloc _) (by omega) (by omega)).mono ?_
    rintro e w2 ⟨j, rfl, j0, j1, r2, g2, s2⟩
    have hq : Blk w2 w1.heap.size ([-1, 0, 65535, 65536, 256, 255].map (Value.int .i64)).toArray 3 := (Blk.new w1 _ _).grown g2 (fun e => by have := r1.lt; injection e; omega)
    obtain ⟨v, hv, hc⟩ := lit_get _ hq j j0 (by simpa using j1)
    have G2 := Lib.hid (gb_trans (gb_alloc G1.out _) g2 (fun k hk => .inl hk))
    have hv2 : -1 ≤ v ∧ v ≤ 65536 := by simp at hv; omega
    clear hq g2 s2 hv
    go_wp2
    go_ret
    exact ⟨v, rfl, hv2.1, hv2.2, r2.mono (by omega), G2.out⟩
  by_cases h1 : k = 1
  · subst h1
    go_wp2_with fail
    refine (pick_pos _ _ _ _ r1 (by omega) (by omega)).mono ?_
    rintro e w2 ⟨j, rfl, j0, j1, r2, g2, s2⟩
    have G2 := Lib.hid (gb_trans G1.out g2 (fun k hk => .inl hk))
    clear g2 s2
    go_wp2
    go_ret
    exact ⟨_, rfl, by omega, by omega, r2.mono (by omega), G2.out⟩
  by_cases h2 : k = 2
  · subst h2
    go_wp2_with fail
    refine (pick_pos _ _ _ _ r1 (by omega) (by omega)).mono ?_
    rintro e w2 ⟨j, rfl, j0, j1, r2, g2, s2⟩
    have G2 := Lib.hid (gb_trans G1.out g2 (fun k hk => .inl hk))
    clear g2 s2
    go_wp2
    go_ret
    exact ⟨_, rfl, by omega, by omega, r2.mono (by omega), G2.out⟩
  by_cases h3 : k = 3
  · subst h3
    go_wp2_with fail
    refine (pick_pos _ _ _ _ r1 (by omega) (by omega)).mono ?_
    rintro e w2 ⟨j, rfl, j0, j1, r2, g2, s2⟩
    have G2 := Lib.hid (gb_trans G1.out g2 (fun k hk => .inl hk))
    clear g2 s2
    go_wp2_with fail
    refine (pick_pos _ _ _ _ r2 (by omega) (by omega)).mono ?_
    rintro e w3 ⟨i, rfl, i0, i1, r3, g3, s3⟩
    have G3 := Lib.hid (gb_trans G2.out g3 (fun k hk => .inl hk))
    clear g3 s3
    go_wp2
    go_ret
    exact ⟨_, rfl, by omega, by omega, r3.mono (by omega), G3.out⟩
  · have e0 : (k == 0) = false := by simpa using h0
    have e1 : (k == 1) = false := by simpa using h1
    have e2 : (k == 2) = false := by simpa using h2
    have e3 : (k == 3) = false := by simpa using h3
    clear h0 h1 h2 h3
    go_wp2_with fail
    refine (pick_pos _ _ _ _ r1 (by omega) (by omega)).mono ?_
    rintro e w2 ⟨j, rfl, j0, j1, r2, g2, s2⟩
    have G2 := Lib.hid (gb_trans G1.out g2 (fun k hk => .inl hk))
    clear g2 s2
    go_wp2
    go_ret
    exact ⟨_, rfl, by omega, by omega, r2.mono (by omega), G2.out⟩
end Go.Proofs.Ythmbapmakihmaaa
