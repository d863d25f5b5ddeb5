/-
  Rows that a call has made. No condition but those that each theorem bears.
-/
import Derived.Test.YtkhaodbcnnlhaaaBase
namespace Go.Proofs.Ytkhaodbcnnlhaaa
open Go.ChangeShapes Go.WideShapes Go.ChangeAt Go.RowKit
set_option linter.unusedVariables false

/-- The slice of n elements at A with capacity c is the call's own (its block lies from 'base' on), of element type e with 'size' cells, and reads as xs. -/
def Own (w : World) (base : Nat) (e : TypeId) (size : Nat) (A : Option Addr) (n c : Nat) (xs : List Value) : Prop := w.ownsRow base e size (.slice A n c) n xs

section
variable {w w' : World} {base : Nat} {e : TypeId} {size : Nat} {A : Option Addr} {n c : Nat} {xs : List Value}
theorem Own.len (h : Own w base e size A n c xs) : xs.length = n * size := h.1
theorem Own.sl (h : Own w base e size A n c xs) : Sl w w.heap.size A xs := Sl.of_own h
theorem Own.blk (h : Own w base e size A n c xs) : ∀ a, A = some a → base ≤ a.block ∧ a.block < w.heap.size ∧ a = ⟨a.block, 0, none⟩ := by
  rcases h.2 with ⟨hv, _⟩ | ⟨g, cap, cur, hv, hb, hh, _⟩
  · injection hv with hA; intro a ha; rw [hA] at ha; cases ha
  · injection hv with hA
    intro a ha
    rw [hA] at ha
    injection ha with ha
    subst ha
    exact ⟨hb, (Array.getElem?_eq_some_iff.1 hh).1, rfl⟩
theorem Own.lower {b : Nat} (h : Own w base e size A n c xs) (hb : b ≤ base) : Own w b e size A n c xs := by
  refine ⟨h.1, ?_⟩
  rcases h.2 with h2 | ⟨g, cap, cur, hv, hg, r⟩
  · exact .inl h2
  · exact .inr ⟨g, cap, cur, hv, Nat.le_trans hb hg, r⟩
theorem Own.grown (h : Own w base e size A n c xs) {row : Option Nat} (hg : w.grownBy w' row) (hne : ∀ a, A = some a → some a.block ≠ row) : Own w' base e size A n c xs := by
  refine World.ownsRow.kept (w := w) h hg ?_
  cases A with
  | none => exact .inl rfl
  | some a => exact .inr (hne a rfl)
theorem Own.keep (h : Own w base e size A n c xs) (hk : ∀ k, base ≤ k → k < w.heap.size → w'.heap[k]? = w.heap[k]?) : Own w' base e size A n c xs := by
  refine ⟨h.1, ?_⟩
  rcases h.2 with h2 | ⟨g, cap, cur, hv, hg, hh, r⟩
  · exact .inl h2
  · exact .inr ⟨g, cap, cur, hv, hg, (hk g hg (Array.getElem?_eq_some_iff.1 hh).1).trans hh, r⟩
theorem Own.below (h : Own w base e size A n c xs) {C : Nat} (hb : Below C w w') (hC : w.heap.size ≤ C) : Own w' base e size A n c xs := h.keep fun k _ hk => hb.block k (by omega)
theorem Own.alloc (h : Own w base e size A n c xs) (o : Obj) : Own (w.alloc o) base e size A n c xs := World.ownsRow.alloc h o
theorem Own.drew (h : Own w base e size A n c xs) : Own w.drew base e size A n c xs := h
theorem Own.drewN (h : Own w base e size A n c xs) (k : Nat) : Own (w.drewN k) base e size A n c xs := h
theorem Own.setLow (h : Own w base e size A n c xs) {p : Addr} (hp : p.block < base) (u : Value) : Own (w.setCell p u) base e size A n c xs := h.keep fun k hk _ => Below.heap_setCell _ _ _ _ (by omega)
theorem Own.set_ne (h : Own w base e size A n c xs) {p : Addr} (hp : ∀ a, A = some a → a.block ≠ p.block) (u : Value) : Own (w.setCell p u) base e size A n c xs :=
  h.grown (row := some p.block) (gb_setCell (World.grownBy.refl w _) (.inl rfl) u) fun a ha => fun he => hp a ha (by injection he)
theorem Own.ne_blk (h : Own w base e size A n c xs) {g : Nat} {t : TypeId} {cs : Array Value} (hg : Blk w g cs t) (hne : e ≠ t) : ∀ a, A = some a → a.block ≠ g := by
  intro a ha he
  rcases h.2 with ⟨hv, _⟩ | ⟨g', cap, cur, hv, _, hh, _⟩
  · injection hv with hA; rw [hA] at ha; cases ha
  · injection hv with hA
    rw [hA] at ha
    injection ha with ha
    subst ha
    have he : g' = g := he
    subst he
    unfold Blk at hg
    rw [hh] at hg
    injection hg with hg
    injection hg with _ ht
    exact hne ht
theorem Own.nil (w : World) (base : Nat) (e : TypeId) (size : Nat) : Own w base e size none 0 0 [] := World.ownsRow_nil w base e size
theorem Own.made (w : World) (base : Nat) (e : TypeId) (size : Nat) (cs : Array Value) (cap : Nat) (hb : base ≤ w.heap.size) (hm : cap ≤ maxLen) (hs : cs.size = cap * size) : Own (w.alloc (.cells cs e)) base e size (some ⟨w.heap.size, 0, none⟩) 0 cap [] := World.ownsRow_made w cs cap hb hm hs
end
theorem below_of_alloc {w w1 : World} {o : Obj} {row : Option Nat} (hg : (w.alloc o).grownBy w1 row) (hr : ∀ k, row = some k → w.heap.size ≤ k) : Below w.heap.size w w1 :=
  ((Below.refl _ w).alloc (Nat.le_refl _) o).grown hg (by simp) hr
theorem lt_of_grown {w w1 : World} {o : Obj} {row : Option Nat} (hg : (w.alloc o).grownBy w1 row) : w.heap.size < w1.heap.size := by
  have h := hg.size
  simp only [World.size_alloc] at h
  omega
theorem blk_marked {w w' : World} {base : Nat} {e : TypeId} {size : Nat} {A : Option Addr} {n c : Nat} {xs : List Value} {g : Nat} {cs : Array Value} {t : TypeId} {row : Option Nat} (q : Blk w g cs t) (o : Own w base e size A n c xs) (hne : e ≠ t) (hg : w.grownBy w' row)
    (hr : ∀ k, row = some k → ∃ a, A = some a ∧ a.block = k) : Blk w' g cs t :=
  q.grown hg (fun h => by
    obtain ⟨a, ha, hb⟩ := hr g h.symm
    exact o.ne_blk q hne a ha hb)
theorem own_marked {w w' : World} {base : Nat} {e : TypeId} {size : Nat} {A : Option Addr} {n c : Nat} {xs : List Value} {base' : Nat} {e' : TypeId} {size' : Nat} {A' : Option Addr} {n' c' : Nat} {xs' : List Value} {row : Option Nat} (o' : Own w base' e' size' A' n' c' xs') (_o : Own w base e size A n c xs) (hg : w.grownBy w' row)
    (hr : ∀ k, row = some k → ∃ a, A = some a ∧ a.block = k) (hne : ∀ a b, A = some a → A' = some b → a.block ≠ b.block) : Own w' base' e' size' A' n' c' xs' :=
  o'.grown hg (fun b hb h => by
    obtain ⟨a, ha, hab⟩ := hr _ h.symm
    exact hne a b ha hb hab)
theorem below_marked {W w w' : World} {base : Nat} {e : TypeId} {size : Nat} {A : Option Addr} {n c : Nat} {xs : List Value} {row : Option Nat} (b : Below W.heap.size W w) (o : Own w base e size A n c xs) (hb : W.heap.size ≤ base) (hg : w.grownBy w' row)
    (hr : ∀ k, row = some k → ∃ a, A = some a ∧ a.block = k) : Below W.heap.size W w' :=
  b.grown hg b.size (fun k hk => by
    obtain ⟨a, ha, hab⟩ := hr k hk
    have := (o.blk a ha).1
    omega)
theorem boxed {w w1 : World} {cs : Array Value} {t : TypeId} (hb : Below (w.alloc (.cells cs t)).heap.size (w.alloc (.cells cs t)) w1) : Blk w1 w.heap.size cs t ∧ w.heap.size < w1.heap.size ∧ Below w.heap.size w w1 := by
  have h := hb.size
  simp only [World.size_alloc] at h
  exact ⟨(Blk.new w cs t).below hb (by simp), by omega, ((Below.refl _ w).alloc (Nat.le_refl _) _).trans (hb.mono (by simp))⟩
theorem boxed2 {w w1 : World} {cs cs2 : Array Value} {t t2 : TypeId} (hb : Below ((w.alloc (.cells cs t)).alloc (.cells cs2 t2)).heap.size ((w.alloc (.cells cs t)).alloc (.cells cs2 t2)) w1) :
    Blk w1 w.heap.size cs t ∧ Blk w1 (w.heap.size + 1) cs2 t2 ∧ w.heap.size + 1 < w1.heap.size ∧ Below w.heap.size w w1 := by
  have h := hb.size
  simp only [World.size_alloc] at h
  exact ⟨((Blk.new w cs t).alloc _).below hb (by simp; omega), by have := (Blk.new (w.alloc (.cells cs t)) cs2 t2).below hb (by simp); simpa using this, by omega, (((Below.refl _ w).alloc (Nat.le_refl _) _).alloc (by simp) _).trans (hb.mono (by simp; omega))⟩
theorem boxed3 {w w1 : World} {cs cs2 cs3 : Array Value} {t t2 t3 : TypeId} (hb : Below (((w.alloc (.cells cs t)).alloc (.cells cs2 t2)).alloc (.cells cs3 t3)).heap.size (((w.alloc (.cells cs t)).alloc (.cells cs2 t2)).alloc (.cells cs3 t3)) w1) :
    Blk w1 w.heap.size cs t ∧ Blk w1 (w.heap.size + 1) cs2 t2 ∧ Blk w1 (w.heap.size + 2) cs3 t3 ∧ w.heap.size + 2 < w1.heap.size ∧ Below w.heap.size w w1 := by
  have h := hb.size
  simp only [World.size_alloc] at h
  exact ⟨(((Blk.new w cs t).alloc _).alloc _).below hb (by simp; omega), by have := ((Blk.new (w.alloc (.cells cs t)) cs2 t2).alloc (.cells cs3 t3)).below hb (by simp); simpa using this, by have := (Blk.new ((w.alloc (.cells cs t)).alloc (.cells cs2 t2)) cs3 t3).below hb (by simp); simpa using this, by omega,
    ((((Below.refl _ w).alloc (Nat.le_refl _) _).alloc (by simp) _).alloc (by simp; omega) _).trans (hb.mono (by simp; omega))⟩
theorem bstep {B C : Nat} {a b c : World} (h : Below B a b) (k : Below C b c) (hC : B ≤ C) : Below B a c := h.trans (k.mono hC)
theorem Blk.get {w : World} {g : Nat} {t : TypeId} {cs : Array Value} (h : Blk w g cs t) (i : Nat) {v : Value} (hv : cs[i]? = some v) : w.cell? ⟨g, i, none⟩ = some v := (h.cell i).trans hv
end Go.Proofs.Ytkhaodbcnnlhaaa
