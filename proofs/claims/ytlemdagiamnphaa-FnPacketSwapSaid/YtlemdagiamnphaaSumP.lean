/-
  The checksum of bytes, in plain Lean: what one byte more does, what a changed byte does, and what two exchanged bytes do. No condition but those that each theorem bears.
-/
import Derived.Test.YtlemdagiamnphaaByteP
namespace Go.Proofs.Ytlemdagiamnphaa
set_option linter.unusedVariables false

def sumGo : Nat → Nat → List UInt8 → Nat × Nat
  | a, b, [] => (a, b)
  | a, b, c :: l => sumGo ((a + c.toNat) % 65521) ((b + (a + c.toNat) % 65521) % 65521) l
def sumOf (l : List UInt8) : Nat := (sumGo 1 0 l).2 * 65536 + (sumGo 1 0 l).1
theorem sumGo_app : ∀ (l r : List UInt8) (a b : Nat), sumGo a b (l ++ r) = sumGo (sumGo a b l).1 (sumGo a b l).2 r
  | [], r, a, b => rfl
  | c :: l, r, a, b => by
    simp only [List.cons_append, sumGo]
    exact sumGo_app l r _ _
theorem sumGo_lt : ∀ (l : List UInt8) (a b : Nat), a < 65521 → b < 65521 → (sumGo a b l).1 < 65521 ∧ (sumGo a b l).2 < 65521
  | [], a, b, ha, hb => ⟨ha, hb⟩
  | c :: l, a, b, ha, hb => by
    simp only [sumGo]
    exact sumGo_lt l _ _ (Nat.mod_lt _ (by omega)) (Nat.mod_lt _ (by omega))
theorem sumOf_lt (l : List UInt8) : sumOf l < 4294967296 := by
  have := sumGo_lt l 1 0 (by omega) (by omega)
  unfold sumOf
  omega
theorem sumOf_parts {l r : List UInt8} (h : sumOf l = sumOf r) : sumGo 1 0 l = sumGo 1 0 r := by
  have h1 := sumGo_lt l 1 0 (by omega) (by omega)
  have h2 := sumGo_lt r 1 0 (by omega) (by omega)
  unfold sumOf at h
  refine Prod.ext ?_ ?_ <;> omega
theorem sumGo_snoc (l : List UInt8) (c : UInt8) (a b : Nat) : sumGo a b (l ++ [c]) = (((sumGo a b l).1 + c.toNat) % 65521, ((sumGo a b l).2 + ((sumGo a b l).1 + c.toNat) % 65521) % 65521) := by
  rw [sumGo_app]
  rfl
/-- The first part of a sum moves with where it begins. -/
theorem sumGo_fst : ∀ (l : List UInt8) (a b : Nat), (sumGo a b l).1 % 65521 = (a + (l.map UInt8.toNat).sum) % 65521
  | [], a, b => by simp [sumGo]
  | c :: l, a, b => by
    simp only [sumGo, List.map_cons, List.sum_cons]
    rw [sumGo_fst l]
    omega
theorem sumGo_fst_ne (l : List UInt8) (a a' b b' : Nat) (h : a % 65521 ≠ a' % 65521) : (sumGo a b l).1 ≠ (sumGo a' b' l).1 := by
  intro e
  have h1 := sumGo_fst l a b
  have h2 := sumGo_fst l a' b'
  rw [e, h2] at h1
  omega
theorem sumGo_snd_ne : ∀ (l : List UInt8) (a b b' : Nat), b % 65521 ≠ b' % 65521 → (sumGo a b l).2 ≠ (sumGo a b' l).2
  | [], a, b, b', h => fun e => h (by rw [show b = b' from e])
  | c :: l, a, b, b', h => by
    simp only [sumGo]
    exact sumGo_snd_ne l _ _ _ (by omega)
/-- A changed byte is noticed. -/
theorem sum_byte (p r : List UInt8) (c d : UInt8) (h : c ≠ d) : sumOf (p ++ c :: r) ≠ sumOf (p ++ d :: r) := by
  intro e
  have e := congrArg Prod.fst (sumOf_parts e)
  rw [sumGo_app, sumGo_app] at e
  simp only [sumGo] at e
  refine sumGo_fst_ne r _ _ _ _ ?_ e
  have h1 := UInt8.toNat_lt c
  have h2 := UInt8.toNat_lt d
  have h3 : c.toNat ≠ d.toNat := fun e => h (UInt8.toNat_inj.1 e)
  omega
/-- Two exchanged bytes are noticed. -/
theorem sum_swap (p r : List UInt8) (c d : UInt8) (h : c ≠ d) : sumOf (p ++ c :: d :: r) ≠ sumOf (p ++ d :: c :: r) := by
  intro e
  have e := congrArg Prod.snd (sumOf_parts e)
  rw [sumGo_app, sumGo_app] at e
  simp only [sumGo] at e
  have h1 := UInt8.toNat_lt c
  have h2 := UInt8.toNat_lt d
  have h3 : c.toNat ≠ d.toNat := fun e => h (UInt8.toNat_inj.1 e)
  generalize (sumGo 1 0 p).1 = a at e
  generalize (sumGo 1 0 p).2 = b at e
  rw [show ((a + d.toNat) % 65521 + c.toNat) % 65521 = ((a + c.toNat) % 65521 + d.toNat) % 65521 from by omega] at e
  exact sumGo_snd_ne r _ _ _ (by omega) e
end Go.Proofs.Ytlemdagiamnphaa
