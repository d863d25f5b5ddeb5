/-
  What a new part brings. Conditions: those that each theorem bears.
-/
import Derived.Test.YtkhaodbcnnlhaaaTake
namespace Go.Proofs.Ytkhaodbcnnlhaaa
open Go.ChangeShapes Go.WideShapes Go.ChangeAt Go.RowKit
set_option linter.unusedVariables false
set_option linter.unusedSimpArgs false
def AddP (r : Added) (w : World) (e : Ending) (w' : World) : Prop :=
  ∃ A1 n1 c1 A3 m3 c3 As q cs, e = .returned (.tuple #[.agg #[.slice A1 n1 c1, .slice A3 m3 c3], .slice As q cs, .int .i64 r.code]) ∧ r.zs.length = n1 ∧ r.ps.length = m3 ∧ r.ms.length = q ∧
    Own w' w.heap.size 3 1 A1 n1 c1 (ints r.zs) ∧ Own w' w.heap.size 45 7 A3 m3 c3 (dats r.ps) ∧ Own w' w.heap.size 64 4 As q cs (msgs r.ms) ∧ Below w.heap.size w w'
/-- What the rounds leave where it lies: the assembly's box, the box of the result, the two rows, the messages. -/
structure AdL (w wr : World) (h : Nat) (A3 : Option Addr) (n c3 : Nat) (nx : List Int) (A5 : Option Addr) (m5 c5 : Nat) (l : List Dat) (As : Option Addr) (q cs : Nat) (ms : List Msg) : Prop where
  h : Blk wr h #[.slice A3 n c3, .slice A5 m5 c5] 41
  z : Blk wr (w.heap.size + 2) #[.slice none 0 0, .slice none 0 0] 41
  i : Own wr (w.heap.size + 3) 3 1 A3 n c3 (ints nx)
  p : Own wr (w.heap.size + 3) 45 7 A5 m5 c5 (dats l)
  s : Own wr (w.heap.size + 3) 64 4 As q cs (msgs ms)
  b : Below w.heap.size w wr
section
variable {w wr w' : World} {h : Nat} {A3 : Option Addr} {n c3 : Nat} {nx : List Int} {A5 : Option Addr} {m5 c5 : Nat} {l : List Dat} {As : Option Addr} {q cs : Nat} {ms : List Msg}
theorem AdL.lt (L : AdL w wr h A3 n c3 nx A5 m5 c5 l As q cs ms) : w.heap.size + 3 ≤ wr.heap.size := L.z.lt
theorem AdL.drew (L : AdL w wr h A3 n c3 nx A5 m5 c5 l As q cs ms) : AdL w wr.drew h A3 n c3 nx A5 m5 c5 l As q cs ms := ⟨L.h.drew, L.z.drew, L.i.drew, L.p.drew, L.s.drew, L.b.drew⟩
theorem AdL.alloc (L : AdL w wr h A3 n c3 nx A5 m5 c5 l As q cs ms) (o : Obj) : AdL w (wr.alloc o) h A3 n c3 nx A5 m5 c5 l As q cs ms := ⟨L.h.alloc o, L.z.alloc o, L.i.alloc o, L.p.alloc o, L.s.alloc o, L.b.alloc L.b.size o⟩
theorem AdL.below (L : AdL w wr h A3 n c3 nx A5 m5 c5 l As q cs ms) (hb : Below wr.heap.size wr w') : AdL w w' h A3 n c3 nx A5 m5 c5 l As q cs ms :=
  ⟨L.h.below hb L.h.lt, L.z.below hb L.z.lt, L.i.below hb (Nat.le_refl _), L.p.below hb (Nat.le_refl _), L.s.below hb (Nat.le_refl _), bstep L.b hb L.b.size⟩
/-- A cell is stored that lies in none of them. -/
theorem AdL.far (L : AdL w wr h A3 n c3 nx A5 m5 c5 l As q cs ms) {g : Nat} {t : TypeId} {xs : Array Value} (hg : Blk wr g xs t) (h1 : t ≠ 3) (h2 : t ≠ 45) (h3 : t ≠ 64 ∨ ∀ a, As = some a → a.block ≠ g) (h4 : h ≠ g) (h5 : w.heap.size + 3 ≤ g) (i : Nat) (u : Value) : AdL w (wr.setCell ⟨g, i, none⟩ u) h A3 n c3 nx A5 m5 c5 l As q cs ms :=
  ⟨L.h.far h4 u, L.z.far (by show _ + _ ≠ g; omega) u, own_far L.i hg (fun e => h1 e.symm) i u, own_far L.p hg (fun e => h2 e.symm) i u, L.s.set_ne (h3.elim (fun h3 => L.s.ne_blk hg (fun e => h3 e.symm)) id) u, L.b.setCell (by show _ ≤ g; omega) u⟩
/-- The two rows are others. -/
theorem AdL.swap (L : AdL w wr h A3 n c3 nx A5 m5 c5 l As q cs ms) {A7 A8 : Option Addr} {n7 c7 m8 c8 : Nat} {nx' : List Int} {l' : List Dat} (o : Own wr (w.heap.size + 3) 3 1 A7 n7 c7 (ints nx')) (p : Own wr (w.heap.size + 3) 45 7 A8 m8 c8 (dats l')) (hh : w.heap.size + 3 ≤ h) :
    AdL w ((wr.setCell ⟨h, 0, none⟩ (.slice A7 n7 c7)).setCell ⟨h, 1, none⟩ (.slice A8 m8 c8)) h A7 n7 c7 nx' A8 m8 c8 l' As q cs ms := by
  have H1 := L.h.set_ 0 (.slice A7 n7 c7)
  exact ⟨H1.set_ 1 (.slice A8 m8 c8), (L.z.far (p := ⟨h, 0, none⟩) (by show _ + _ ≠ h; omega) _).far (p := ⟨h, 1, none⟩) (by show _ + _ ≠ h; omega) _, own_far (own_far o L.h (by decide) 0 _) H1 (by decide) 1 _, own_far (own_far p L.h (by decide) 0 _) H1 (by decide) 1 _, own_far (own_far L.s L.h (by decide) 0 _) H1 (by decide) 1 _, (L.b.setCell (by show _ ≤ h; omega) _).setCell (by show _ ≤ h; omega) _⟩
/-- The messages have grown. -/
theorem AdL.said (L : AdL w wr h A3 n c3 nx A5 m5 c5 l As q cs ms) {row : Option Nat} (g : wr.grownBy w' row) (r : AtRow As row) {As' : Option Addr} {q' cs' : Nat} {ms' : List Msg} (o : Own w' (w.heap.size + 3) 64 4 As' q' cs' (msgs ms')) :
    AdL w w' h A3 n c3 nx A5 m5 c5 l As' q' cs' ms' :=
  ⟨blk_held L.h L.s (by decide) g r, blk_held L.z L.s (by decide) g r, own_held L.i L.s (by decide) g r, own_held L.p L.s (by decide) g r, o, below_at L.b L.b.size g r (fun a ha => by have := (L.s.blk a ha).1; omega)⟩
end
theorem due_at {nx : List Int} {l : List Dat} {x : Nat} {c : List Nat} (hF : Fit nx l) (hD : dueP nx l = x :: c) : ∃ dd, l[x]? = some dd ∧ (∀ y ∈ x :: c, y < l.length) ∧ (x :: c).length ≤ 13 := by
  rcases dueP_spec (nx := nx) hF.len (fun d hd => (hF.ok d hd).1) with h | ⟨x', c', d', h1, h2, _, h4, h5⟩
  · rw [hD] at h; cases h
  · rw [hD] at h1; injection h1 with e1 e2; subst e1 e2; exact ⟨d', h2, h4, h5⟩
theorem chainAt {R : List Nat} {q : Nat} (h : R.length = q) (hq : q ≠ 0) : ∃ x c, R = x :: c := by
  cases R with
  | nil => exact absurd h.symm hq
  | cons x c => exact ⟨x, c, rfl⟩
end Go.Proofs.Ytkhaodbcnnlhaaa
