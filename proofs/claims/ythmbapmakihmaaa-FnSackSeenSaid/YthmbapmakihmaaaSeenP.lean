/-
  What SeenAdd, SeenHas and SeenSack compute, in plain Lean. No condition.
-/
import Derived.Test.YthmbapmakihmaaaSeenV
namespace Go.Proofs.Ythmbapmakihmaaa
open Go.ChangeShapes Go.WideShapes Go.ChangeAt Go.RowKit
set_option linter.unusedVariables false

def hasB : List Int → Int → Bool
  | [], _ => false
  | z :: r, n => (z == n) || hasB r n
theorem hasB_mem : ∀ {zs : List Int} {n : Int}, hasB zs n = true ↔ n ∈ zs
  | [], n => by simp [hasB]
  | z :: r, n => by
    unfold hasB
    rw [Bool.or_eq_true, hasB_mem (zs := r), List.mem_cons, beq_iff_eq]
    constructor
    · rintro (h | h)
      · exact .inl h.symm
      · exact .inr h
    · rintro (h | h)
      · exact .inl h.symm
      · exact .inr h
theorem hasB_not {zs : List Int} {n : Int} : hasB zs n = false ↔ n ∉ zs := by
  rw [← hasB_mem]
  cases hasB zs n <;> simp
theorem hasB_append (a b : List Int) (n : Int) : hasB (a ++ b) n = (hasB a n || hasB b n) := by
  induction a with
  | nil => simp [hasB]
  | cons z r ih => simp only [List.cons_append, hasB, ih, Bool.or_assoc]
theorem hasB_drop {zs : List Int} {k : Nat} {z : Int} (h : zs[k]? = some z) (n : Int) : hasB (zs.drop k) n = ((z == n) || hasB (zs.drop (k + 1)) n) := by
  obtain ⟨hk, hz⟩ := List.getElem?_eq_some_iff.1 h
  rw [List.drop_eq_getElem_cons hk, hz]
  rfl
theorem hasB_end {zs : List Int} {k : Nat} (h : zs.length ≤ k) (n : Int) : hasB (zs.drop k) n = false := by
  rw [List.drop_of_length_le h]; rfl

theorem asc_mem : ∀ {zs : List Int} {low : Int}, asc low zs = true → ∀ z ∈ zs, low ≤ z ∧ z ≤ 16
  | [], _, _, z, hz => by simp at hz
  | y :: r, low, h, z, hz => by
    unfold asc at h
    rw [Bool.and_eq_true] at h
    have hy := inB_true h.1
    rcases List.mem_cons.1 hz with rfl | hz
    · exact hy
    · have := asc_mem h.2 z hz
      omega
theorem asc_len : ∀ {zs : List Int} {low : Int}, asc low zs = true → low ≤ 17 → (zs.length : Int) ≤ 17 - low
  | [], _, _, h => by simp; omega
  | y :: r, low, h, hl => by
    unfold asc at h
    rw [Bool.and_eq_true] at h
    have hy := inB_true h.1
    have := asc_len h.2 (by omega)
    simp only [List.length_cons]
    omega
theorem seenOk_true {cum : Int} {zs : List Int} (h : seenOk cum zs = true) : asc 2 zs = true ∧ okB cum = true := by
  unfold seenOk at h
  rwa [Bool.and_eq_true] at h
theorem seenOk_mem {cum : Int} {zs : List Int} (h : seenOk cum zs = true) : ∀ z ∈ zs, 2 ≤ z ∧ z ≤ 16 := asc_mem (seenOk_true h).1
theorem seenOk_len {cum : Int} {zs : List Int} (h : seenOk cum zs = true) : zs.length ≤ 15 := by
  have := asc_len (seenOk_true h).1 (by omega)
  omega

/-! ### SeenHas -/
def seenHas (cum : Int) (zs : List Int) (tsn : Int) : Bool := seenOk cum zs && okB tsn && (decide (sdiff cum tsn ≤ 0) || hasB zs (sdiff cum tsn))

/-! ### SeenAdd -/
def moveN (all : List Int) : Nat → Nat → Nat
  | 0, m => m
  | f + 1, m => if hasB all ((m : Int) + 1) then moveN all f (m + 1) else m
def moved (all : List Int) : Nat := moveN all 16 0
def extraTo (all : List Int) (m k : Nat) : List Int := ((List.range k).filter fun (j : Nat) => decide (m < j) && hasB all (j : Int)).map fun (j : Nat) => (j : Int) - (m : Int)
def saCode (cum : Int) (zs : List Int) (tsn : Int) : Int :=
  if seenOk cum zs && okB tsn then (if decide (sdiff cum tsn ≤ 0) || hasB zs (sdiff cum tsn) then 1 else if 16 < sdiff cum tsn then 2 else 0) else 3
def saAll (cum : Int) (zs : List Int) (tsn : Int) : List Int := zs ++ [sdiff cum tsn]
def saCum (cum : Int) (zs : List Int) (tsn : Int) : Int :=
  if saCode cum zs tsn = 3 then 0 else if saCode cum zs tsn = 0 then sadd cum (moved (saAll cum zs tsn)) else cum
def saExtra (cum : Int) (zs : List Int) (tsn : Int) : List Int :=
  if saCode cum zs tsn = 3 then [] else if saCode cum zs tsn = 0 then extraTo (saAll cum zs tsn) (moved (saAll cum zs tsn)) 17 else zs
theorem extraTo_step (all : List Int) (m k : Nat) (h : m < k) : extraTo all m (k + 1) = extraTo all m k ++ (if hasB all (k : Int) then [(k : Int) - m] else []) := by
  unfold extraTo
  rw [List.range_succ, List.filter_append, List.map_append]
  congr 1
  by_cases hb : hasB all (k : Int) = true
  · simp [hb, h]
  · have hb : hasB all (k : Int) = false := by simpa using hb
    simp [hb]
theorem extraTo_start (all : List Int) (m : Nat) : extraTo all m (m + 1) = [] := by
  unfold extraTo
  rw [List.map_eq_nil_iff, List.filter_eq_nil_iff]
  intro j hj
  have := List.mem_range.1 hj
  simp
  omega
theorem extraTo_len (all : List Int) (m k : Nat) : (extraTo all m k).length ≤ k := by
  unfold extraTo
  rw [List.length_map]
  exact Nat.le_trans (List.length_filter_le _ _) (by simp)
theorem moveN_le (all : List Int) : ∀ (f m : Nat), moveN all f m ≤ m + f
  | 0, m => Nat.le_refl _
  | f + 1, m => by
    unfold moveN
    split
    · have := moveN_le all f (m + 1); omega
    · omega
/-- What the loop finds: all numbers up to m are there, the next one is not. -/
theorem moveN_spec (all : List Int) (M : Nat) (hM : hasB all ((M : Int) + 1) = false) : ∀ (f m : Nat), m ≤ M → M ≤ m + f → hasB all ((moveN all f m : Nat) + 1 : Int) = false ∧ m ≤ moveN all f m ∧ moveN all f m ≤ M ∧ ∀ j : Nat, m < j → j ≤ moveN all f m → hasB all (j : Int) = true
  | 0, m, h1, h2 => by
    have : m = M := by omega
    subst this
    exact ⟨hM, Nat.le_refl _, Nat.le_refl _, fun j a b => by unfold moveN at b; omega⟩
  | f + 1, m, h1, h2 => by
    unfold moveN
    split
    · rename_i hb
      have hne : m ≠ M := by
        rintro rfl
        rw [hM] at hb
        cases hb
      obtain ⟨a, b, c, d⟩ := moveN_spec all M hM f (m + 1) (by omega) (by omega)
      refine ⟨a, by omega, c, fun j hj hj2 => ?_⟩
      by_cases hjm : j = m + 1
      · subst hjm
        exact_mod_cast hb
      · exact d j (by omega) hj2
    · rename_i hb
      exact ⟨by simpa using hb, Nat.le_refl _, h1, fun j a b => by omega⟩
end Go.Proofs.Ythmbapmakihmaaa
