/-
  What the drawing functions return: a reader's contract, and that of each number that is picked. Conditions: the reader reads bytes, and has picked fewer than a million numbers.
-/
import Derived.Test.YthmbapmakihmaaaRows
import Derived.Test.YthmbapmakihmaaaBase
namespace Go.Proofs.Ythmbapmakihmaaa
open Go.ChangeShapes Go.WideShapes Go.ChangeAt Go.RowKit
set_option linter.unusedVariables false

/-- Block g is a reader that has picked p numbers. -/
def Rd (w : World) (g p : Nat) : Prop :=
  ∃ (A : Option Addr) (n cap : Nat) (zs : List Int), Blk w g #[.slice A n cap, .int .i64 p] 49 ∧ Sl w g A (zs.map (Value.int .u8)) ∧ zs.length = n ∧ n ≤ 2000 ∧ ∀ z ∈ zs, 0 ≤ z ∧ z ≤ 255
/-- .. at most L numbers. -/
def RdB (w : World) (g L : Nat) : Prop := ∃ p, p ≤ L ∧ Rd w g p

section
variable {w w' : World} {g p L : Nat}
theorem Rd.lt (h : Rd w g p) : g < w.heap.size := let ⟨_, _, _, _, hb, _⟩ := h; hb.lt
theorem RdB.lt (h : RdB w g L) : g < w.heap.size := let ⟨_, _, h⟩ := h; h.lt
theorem RdB.mono {M : Nat} (h : RdB w g L) (hm : L ≤ M) : RdB w g M := let ⟨p, hp, hr⟩ := h; ⟨p, Nat.le_trans hp hm, hr⟩
theorem Rd.grown {row : Option Nat} (h : Rd w g p) (hb : w.grownBy w' row) (hr : ∀ k, row = some k → g < k) : Rd w' g p := by
  have hl := h.lt
  obtain ⟨A, n, cap, zs, h1, h2, h3⟩ := h
  exact ⟨A, n, cap, zs, h1.grown hb (fun e => by have := hr _ e.symm; omega), h2.grown hb (by omega) (fun k hk => by have := hr _ hk; omega), h3⟩
theorem RdB.grown {row : Option Nat} (h : RdB w g L) (hb : w.grownBy w' row) (hr : ∀ k, row = some k → g < k) : RdB w' g L := let ⟨p, hp, h⟩ := h; ⟨p, hp, h.grown hb hr⟩
theorem RdB.below {C : Nat} (h : RdB w g L) (hb : Below C w w') (hC : w.heap.size ≤ C) : RdB w' g L :=
  h.grown (row := none) ⟨hb.os, hb.tape, hb.output, hb.size, fun k hk _ => hb.block k (by omega)⟩ (fun _ e => by cases e)
theorem RdB.alloc (h : RdB w g L) (o : Obj) : RdB (w.alloc o) g L := h.grown (row := none) (World.grownBy_alloc w o none) (fun _ e => by cases e)
theorem RdB.drew (h : RdB w g L) : RdB w.drew g L := h
theorem RdB.drewN (h : RdB w g L) (n : Nat) : RdB (w.drewN n) g L := h
theorem RdB.setCell (h : RdB w g L) {q : Addr} (hq : g < q.block) (u : Value) : RdB (w.setCell q u) g L :=
  h.grown (row := some q.block) (gb_setCell (World.grownBy.refl w _) (.inl rfl) u) (fun k e => by injection e; omega)
end

/-! ### pick -/
section
variable (n : Int) (g : Nat) (w : World) (b off len cap p : Nat) (A : Option Addr)
theorem pick_a (h0 : w.cell? ⟨g, 0, none⟩ = some (.slice A len cap)) (h1 : w.cell? ⟨g, 1, none⟩ = some (.int .i64 p)) (hf : w.frozen? ⟨g, 1, none⟩ = false)
    (hp : p ≤ 1000000) (hn : n < 1) :
    Calls Try.prog 18 #[.pointer (some ⟨g, 0, none⟩), .int .i64 n] w fun e w' => e = .returned (.int .i64 0) ∧ w' = w.setCell ⟨g, 1, none⟩ (.int .i64 ((p + 1 : Nat) : Int)) := by
  go_enter Try.func18, Try.ntmps18
  go_wp2
  go_ret
  exact ⟨rfl, rfl⟩
theorem pick_b (h0 : w.cell? ⟨g, 0, none⟩ = some (.slice A len cap)) (h1 : w.cell? ⟨g, 1, none⟩ = some (.int .i64 p)) (hf : w.frozen? ⟨g, 1, none⟩ = false)
    (hp : p ≤ 1000000) (hn : 1 ≤ n) (hl : ((len : Int) == 0) = true) :
    Calls Try.prog 18 #[.pointer (some ⟨g, 0, none⟩), .int .i64 n] w fun e w' => e = .returned (.int .i64 0) ∧ w' = w.setCell ⟨g, 1, none⟩ (.int .i64 ((p + 1 : Nat) : Int)) := by
  go_enter Try.func18, Try.ntmps18
  go_wp2
  go_ret
  exact ⟨rfl, rfl⟩
theorem pick_c (v : Int)
    (h0 : w.cell? ⟨g, 0, none⟩ = some (.slice (some ⟨b, off, none⟩) len cap)) (h1 : w.cell? ⟨g, 1, none⟩ = some (.int .i64 p)) (hf : w.frozen? ⟨g, 1, none⟩ = false)
    (hp : p ≤ 1000000) (hn : 1 ≤ n) (hl : p < len) (hl0 : ((len : Int) == 0) = false) (hlm : len ≤ 2000) (hb : b < g) (hv : w.cell? ⟨b, off + p, none⟩ = some (.int .u8 v)) (hv0 : 0 ≤ v) (hv1 : v ≤ 255) :
    Calls Try.prog 18 #[.pointer (some ⟨g, 0, none⟩), .int .i64 n] w fun e w' => e = .returned (.int .i64 (v % n)) ∧ w' = w.setCell ⟨g, 1, none⟩ (.int .i64 ((p + 1 : Nat) : Int)) := by
  go_enter Try.func18, Try.ntmps18
  go_wp2
  go_ret
  exact ⟨rfl, rfl⟩
def PickD (n : Int) (g p : Nat) (w : World) (e : Ending) (w' : World) : Prop :=
  ∃ k : Int, 0 ≤ k ∧ k < n ∧ e = .returned (.int .i64 k) ∧ ∃ m, w' = (w.setCell ⟨g, 1, none⟩ (.int .i64 ((p + 1 : Nat) : Int))).drewN m
theorem pick_d (v u : Int)
    (h0 : w.cell? ⟨g, 0, none⟩ = some (.slice (some ⟨b, off, none⟩) len cap)) (h1 : w.cell? ⟨g, 1, none⟩ = some (.int .i64 p)) (hf : w.frozen? ⟨g, 1, none⟩ = false)
    (hp : p ≤ 1000000) (hn : 1 ≤ n) (hl : len ≤ p) (hl0 : 1 ≤ len) (hl0' : ((len : Int) == 0) = false) (hlm : len ≤ 2000) (hb : b < g)
    (hv : w.cell? ⟨b, off + p % len, none⟩ = some (.int .u8 v)) (hv0 : 0 ≤ v) (hv1 : v ≤ 255)
    (hu : w.cell? ⟨b, off + (p * 7 + 3) % len, none⟩ = some (.int .u8 u)) (hu0 : 0 ≤ u) (hu1 : u ≤ 255) :
    Calls Try.prog 18 #[.pointer (some ⟨g, 0, none⟩), .int .i64 n] w (PickD n g p w) := by
  have m0 : 0 ≤ (p : Int) % (len : Int) := Int.emod_nonneg _ (by omega)
  have m1 : (p : Int) % (len : Int) < (len : Int) := Int.emod_lt_of_pos _ (by omega)
  have m2 : ((p : Int) % (len : Int)).toNat = p % len := by rw [← Int.natCast_emod]; rfl
  have n0 : 0 ≤ ((p : Int) * 7 + 3) % (len : Int) := Int.emod_nonneg _ (by omega)
  have n1 : ((p : Int) * 7 + 3) % (len : Int) < (len : Int) := Int.emod_lt_of_pos _ (by omega)
  have n2 : (((p : Int) * 7 + 3) % (len : Int)).toNat = (p * 7 + 3) % len := by
    rw [show ((p : Int) * 7 + 3) = ((p * 7 + 3 : Nat) : Int) from by omega, ← Int.natCast_emod]; rfl
  have q0 : 0 ≤ (p : Int) / (len : Int) := Int.ediv_nonneg (by omega) (by omega)
  have q1 : (p : Int) / (len : Int) ≤ p := Int.ediv_le_self _ (by omega)
  go_enter Try.func18, Try.ntmps18
  go_wp2
  go_quiet (fail)
  go_wp2
  go_ret
  have hx := bits_xor_i64_nonneg (v * 131 + u * 1117 + (p : Int) * 29 + (p : Int) / (len : Int) * 53) ((v * 131 + u * 1117 + (p : Int) * 29 + (p : Int) / (len : Int) * 53) / 64) (by omega) (by omega) (by omega) (by omega)
  refine ⟨_, ?_, ?_, rfl, _, rfl⟩
  · simp only [Int.tmod_eq_emod_of_nonneg hx]
    exact Int.emod_nonneg _ (by omega)
  · simp only [Int.tmod_eq_emod_of_nonneg hx]
    exact Int.emod_lt_of_pos _ (by omega)
end

def PickPost (n : Int) (g L : Nat) (w : World) (e : Ending) (w' : World) : Prop :=
  ∃ k : Int, e = .returned (.int .i64 k) ∧ 0 ≤ k ∧ (1 ≤ n → k < n) ∧ (n < 1 → k = 0) ∧ RdB w' g (L + 1) ∧ w.grownBy w' (some g) ∧ w'.heap.size = w.heap.size
theorem rd_next {w : World} {g p : Nat} (h : Rd w g p) (m : Nat) : Rd ((w.setCell ⟨g, 1, none⟩ (.int .i64 ((p + 1 : Nat) : Int))).drewN m) g (p + 1) := by
  obtain ⟨A, k, cap, zs, h1, h2, h3⟩ := h
  exact ⟨A, k, cap, zs, by have := (h1.set_ 1 (.int .i64 ((p + 1 : Nat) : Int))).drewN m; simpa using this, (h2.setCell (Nat.le_refl _) _).drewN m, h3⟩
theorem pick_any (n : Int) (g : Nat) (w : World) (L : Nat) (hr : RdB w g L) (hL : L ≤ 1000000) :
    Calls Try.prog 18 #[.pointer (some ⟨g, 0, none⟩), .int .i64 n] w (PickPost n g L w) := by
  obtain ⟨p, hp, hr⟩ := hr
  have hr' := hr
  obtain ⟨A, len, cap, zs, h1, h2, h3, h4, h5⟩ := hr'
  have c0 := h1.cell 0
  have c1 := h1.cell 1
  have f1 := h1.frozen 1
  simp only [List.getElem?_toArray, List.getElem?_cons_zero, List.getElem?_cons_succ] at c0 c1
  have fin : ∀ (k : Int) (m : Nat), 0 ≤ k → (1 ≤ n → k < n) → (n < 1 → k = 0) → PickPost n g L w (.returned (.int .i64 k)) ((w.setCell ⟨g, 1, none⟩ (.int .i64 ((p + 1 : Nat) : Int))).drewN m) := fun k m hk hk1 hk2 =>
    ⟨k, rfl, hk, hk1, hk2, ⟨p + 1, by omega, rd_next hr m⟩, gb_drewN (gb_setCell (World.grownBy.refl w _) (.inl rfl) _) m, by simp [World.setCell, World.drewN]⟩
  by_cases hn : n < 1
  · exact (pick_a n g w len cap p A c0 c1 f1 (by omega) hn).mono fun e w' ⟨he, hw⟩ => by subst he hw; exact fin 0 0 (Int.le_refl _) (fun h => by omega) (fun _ => rfl)
  · have hn1 : 1 ≤ n := by omega
    by_cases hl : len = 0
    · exact (pick_b n g w len cap p A c0 c1 f1 (by omega) hn1 (by subst hl; rfl)).mono fun e w' ⟨he, hw⟩ => by subst he hw; exact fin 0 0 (Int.le_refl _) (fun h => by omega) (fun _ => rfl)
    · have hb0 : ((len : Int) == 0) = false := by simpa using hl
      obtain ⟨b, off, rfl, hb, hc⟩ := h2.at_ (j := 0) (by rw [List.length_map]; omega)
      have cel : ∀ i, i < len → ∃ v : Int, w.cell? ⟨b, off + i, none⟩ = some (.int .u8 v) ∧ 0 ≤ v ∧ v ≤ 255 := fun i hi =>
        ⟨zs[i]'(by omega), hc i _ (by rw [List.getElem?_map, List.getElem?_eq_getElem (by omega)]; rfl), h5 _ (List.getElem_mem _)⟩
      by_cases hpl : p < len
      · obtain ⟨v, hv, v0, v1⟩ := cel p hpl
        refine (pick_c n g w b off len cap p v c0 c1 f1 (by omega) hn1 hpl hb0 h4 hb hv v0 v1).mono fun e w' ⟨he, hw⟩ => ?_
        subst he hw
        exact fin _ 0 (Int.emod_nonneg _ (by omega)) (fun _ => Int.emod_lt_of_pos _ (by omega)) (fun h => by omega)
      · obtain ⟨v, hv, v0, v1⟩ := cel (p % len) (Nat.mod_lt _ (by omega))
        obtain ⟨u, hu, u0, u1⟩ := cel ((p * 7 + 3) % len) (Nat.mod_lt _ (by omega))
        refine (pick_d n g w b off len cap p v u c0 c1 f1 (by omega) hn1 (by omega) (by omega) hb0 h4 hb hv v0 v1 hu u0 u1).mono fun e w' ⟨k, hk0, hk1, he, m, hw⟩ => ?_
        subst he hw
        exact fin k m hk0 (fun _ => hk1) (fun h => by omega)

/-! ### l6Open -/
theorem open_any (A : Option Addr) (n cap : Nat) (zs : List Int) (w : World) (hs : Sl w w.heap.size A (zs.map (Value.int .u8))) (hn : zs.length = n) (hc : n ≤ cap) (hm : cap ≤ maxLen) (hz : ∀ z ∈ zs, 0 ≤ z ∧ z ≤ 255) :
    Calls Try.prog 11 #[.slice A n cap] w fun e w' => e = .returned (.pointer (some ⟨w.heap.size, 0, none⟩)) ∧ RdB w' w.heap.size 0 ∧ Below w.heap.size w w' ∧ w'.heap.size = w.heap.size + 1 := by
  have key : ∀ k, k ≤ n → k ≤ 2000 → RdB (w.alloc (.cells #[.slice A k cap, .int .i64 0] 49)) w.heap.size 0 := fun k hk hk2 =>
    ⟨0, Nat.le_refl _, A, k, cap, zs.take k, Blk.new w _ _, by rw [List.map_take]; exact (hs.take k).alloc (Nat.le_refl _) _, by rw [List.length_take]; omega, hk2, fun z h => hz z (List.mem_of_mem_take h)⟩
  unfold maxLen at hm
  have K := Lib.hid key
  clear key hz hs
  by_cases h : 2000 < n
  · go_enter Try.func11, Try.ntmps11
    go_wp2
    go_ret
    exact ⟨rfl, K.out _ (by omega) (by omega), by go_grown, by simp⟩
  · go_enter Try.func11, Try.ntmps11
    go_wp2
    go_ret
    exact ⟨rfl, K.out _ (by omega) (by omega), by go_grown, by simp⟩
end Go.Proofs.Ythmbapmakihmaaa
