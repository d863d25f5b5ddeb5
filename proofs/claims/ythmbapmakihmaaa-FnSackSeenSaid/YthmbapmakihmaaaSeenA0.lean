/-
  Lemmas for SeenAdd. Conditions: those that each theorem bears.
-/
import Derived.Test.YthmbapmakihmaaaSeenH
import Derived.Test.YthmbapmakihmaaaAppend
import Derived.Deep.DeepCutAuto
namespace Go.Proofs.Ythmbapmakihmaaa
open Go.ChangeShapes Go.WideShapes Go.ChangeAt Go.RowKit
set_option linter.unusedVariables false

theorem ints_one (zs : List Int) : ∀ u ∈ ints zs, u.oneCell' = true := by
  intro u hu
  unfold ints at hu
  obtain ⟨z, _, rfl⟩ := List.mem_map.1 hu
  rfl
theorem sa3 {cum : Int} {zs : List Int} {tsn : Int} (h : seenOk cum zs = false ∨ okB tsn = false) : saCode cum zs tsn = 3 := by
  unfold saCode
  rcases h with h | h <;> simp [h]
theorem sa1 {cum : Int} {zs : List Int} {tsn : Int} (h1 : seenOk cum zs = true) (h2 : okB tsn = true) (h : (decide (sdiff cum tsn ≤ 0) || hasB zs (sdiff cum tsn)) = true) : saCode cum zs tsn = 1 := by
  unfold saCode
  rw [h1, h2, Bool.and_self, if_pos rfl, if_pos h]
theorem sa2 {cum : Int} {zs : List Int} {tsn : Int} (h1 : seenOk cum zs = true) (h2 : okB tsn = true) (h : (decide (sdiff cum tsn ≤ 0) || hasB zs (sdiff cum tsn)) = false) (h4 : 16 < sdiff cum tsn) : saCode cum zs tsn = 2 := by
  unfold saCode
  rw [h1, h2, Bool.and_self, if_pos rfl, if_neg (by simp [h]), if_pos h4]
theorem sa0 {cum : Int} {zs : List Int} {tsn : Int} (h1 : seenOk cum zs = true) (h2 : okB tsn = true) (h : (decide (sdiff cum tsn ≤ 0) || hasB zs (sdiff cum tsn)) = false) (h4 : ¬ 16 < sdiff cum tsn) : saCode cum zs tsn = 0 := by
  unfold saCode
  rw [h1, h2, Bool.and_self, if_pos rfl, if_neg (by simp [h]), if_neg h4]
def SeenAddP (cum : Int) (zs : List Int) (tsn : Int) (w : World) : Ending → World → Prop := SeenTwo (saCum cum zs tsn) (saExtra cum zs tsn) (saExtra cum zs tsn).length (.int .i64 (saCode cum zs tsn)) w
theorem sap3 {cum : Int} {zs : List Int} {tsn : Int} {w : World} (h : saCode cum zs tsn = 3) : SeenAddP cum zs tsn w = SeenTwo 0 [] 0 (.int .i64 3) w := by
  unfold SeenAddP saCum saExtra
  rw [h]; rfl
theorem sap1 {cum : Int} {zs : List Int} {tsn : Int} {w : World} (h : saCode cum zs tsn = 1) : SeenAddP cum zs tsn w = SeenTwo cum zs zs.length (.int .i64 1) w := by
  unfold SeenAddP saCum saExtra
  rw [h]; rfl
theorem sap2 {cum : Int} {zs : List Int} {tsn : Int} {w : World} (h : saCode cum zs tsn = 2) : SeenAddP cum zs tsn w = SeenTwo cum zs zs.length (.int .i64 2) w := by
  unfold SeenAddP saCum saExtra
  rw [h]; rfl
theorem sap0 {cum : Int} {zs : List Int} {tsn : Int} {w : World} (h : saCode cum zs tsn = 0) : SeenAddP cum zs tsn w = SeenTwo (sadd cum (moved (saAll cum zs tsn))) (extraTo (saAll cum zs tsn) (moved (saAll cum zs tsn)) 17) (extraTo (saAll cum zs tsn) (moved (saAll cum zs tsn)) 17).length (.int .i64 0) w := by
  unfold SeenAddP saCum saExtra
  rw [h]; rfl
/-- The program's array of what is there. -/
def hv (l : List Int) : Array Value := ((List.range 18).map fun (i : Nat) => Value.bool (hasB l (i : Int))).toArray
theorem hv_size (l : List Int) : (hv l).size = 18 := by simp [hv]
theorem hv_get (l : List Int) (i : Nat) (h : i < 18) : (hv l)[i]? = some (.bool (hasB l (i : Int))) := by
  unfold hv
  rw [List.getElem?_toArray, List.getElem?_map, List.getElem?_range h]
  rfl
theorem hv_set (l : List Int) (z : Int) (h0 : 0 ≤ z) (h1 : z < 18) : (hv l).setIfInBounds z.toNat (.bool true) = hv (l ++ [z]) := by
  apply Array.ext_getElem?
  intro i
  rw [Array.getElem?_setIfInBounds]
  by_cases hi : i < 18
  · rw [hv_get _ _ hi, hv_get _ _ hi, hv_size]
    by_cases hz : z.toNat = i
    · rw [if_pos hz, if_pos (by omega), hasB_append]
      have : hasB [z] (i : Int) = true := by rw [hasB_mem]; simp; omega
      rw [this, Bool.or_true]
    · rw [if_neg hz, hasB_append]
      have : hasB [z] (i : Int) = false := by rw [hasB_not]; simp; omega
      rw [this, Bool.or_false]
  · have e1 : (hv l)[i]? = none := by rw [Array.getElem?_eq_none]; rw [hv_size]; omega
    have e2 : (hv (l ++ [z]))[i]? = none := by rw [Array.getElem?_eq_none]; rw [hv_size]; omega
    rw [e1, e2, hv_size]
    split
    · rw [if_neg (by omega)]
    · rfl
theorem all17 {cum : Int} {zs : List Int} {tsn : Int} (h : seenOk cum zs = true) (h2 : sdiff cum tsn ≤ 16) : hasB (saAll cum zs tsn) 17 = false := by
  rw [hasB_not]
  unfold saAll
  intro hm
  rcases List.mem_append.1 hm with hm | hm
  · have := seenOk_mem h 17 hm; omega
  · simp at hm; omega
theorem move_yes {all : List Int} {m : Nat} (h : m < 16) (hb : hasB all ((m : Int) + 1) = true) : moveN all (16 - m) m = moveN all (16 - (m + 1)) (m + 1) := by
  rw [show 16 - m = (16 - (m + 1)) + 1 from by omega]
  conv => lhs; unfold moveN
  rw [if_pos hb]
theorem move_no {all : List Int} {m : Nat} (hb : hasB all ((m : Int) + 1) = false) : moveN all (16 - m) m = m := by
  rcases Nat.eq_zero_or_pos (16 - m) with h | h
  · rw [h]; rfl
  · rw [show 16 - m = (16 - m - 1) + 1 from by omega]
    unfold moveN
    rw [if_neg (by rw [hb]; simp)]
theorem hv_nil : hv [] = #[.bool false, .bool false, .bool false, .bool false, .bool false, .bool false, .bool false, .bool false, .bool false, .bool false, .bool false, .bool false, .bool false, .bool false, .bool false, .bool false, .bool false, .bool false] := by rfl
def CopyP (cum : Int) (zs : List Int) (n : Nat) (w1 wx : World) (s6 : Value) : Prop :=
  ∃ g A2 c2, s6 = .pointer (some ⟨g, 0, none⟩) ∧ Blk wx g #[.int .i64 cum, .slice A2 n c2] 29 ∧ Own wx w1.heap.size 3 1 A2 n c2 (ints zs) ∧ Below w1.heap.size w1 wx ∧ w1.heap.size ≤ g
end Go.Proofs.Ythmbapmakihmaaa
