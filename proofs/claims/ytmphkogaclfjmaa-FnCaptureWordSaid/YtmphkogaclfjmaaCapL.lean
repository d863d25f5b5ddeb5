/-
  What the laws say of captures, in plain Lean. No condition but those that each theorem bears.
-/
import Derived.Test.YtmphkogaclfjmaaCapB0
namespace Go.Proofs.Ytmphkogaclfjmaa
set_option linter.unusedVariables false

theorem cbytes_len (l : List Rec) : (capBytes l).length = 4 + (allBytes l).length := by
  unfold capBytes
  rw [List.length_append]
  rfl
theorem get_bytes {l : List Rec} (h : capB l = true) : capGet (capBytes l) = (l, true) := by
  have e := begin_all l [] h (by simp)
  rw [List.append_nil] at e
  have hl := cbytes_len l
  unfold capGet
  rw [e, if_pos ⟨rfl, by show (capBytes l).length ≠ 0; omega⟩]
theorem begin_put {s : List UInt8} (h : (capBegin s).2 ≠ 0) : capPut (capBegin s).1 = mk (s.take (capBegin s).2) := by
  obtain ⟨_, a, b, _⟩ := begin_bytes h
  unfold capPut
  rw [if_pos a, b]
theorem get_put {s : List UInt8} {x : List Rec} (h : capGet s = (x, true)) : capPut x = mk s := by
  by_cases hc : (capBegin s).2 = s.length ∧ (capBegin s).2 ≠ 0
  · rw [capGet_yes hc] at h
    injection h with h1 h2
    have := begin_put hc.2
    rw [h1, hc.1, List.take_length] at this
    exact this
  · rw [capGet_no hc] at h
    injection h with h1 h2
    cases h2
theorem begin_rest {s : List UInt8} (h : (capBegin s).2 ≠ 0) : capBegin (s.take (capBegin s).2 ++ [120]) = capBegin s := by
  obtain ⟨_, a, b, c⟩ := begin_bytes h
  have e := begin_all (capBegin s).1 [120] a (by simp)
  rw [b] at e
  rw [e, List.length_take]
  refine Prod.ext rfl ?_
  show min _ _ = _
  omega
theorem begin_word (s : List UInt8) : ((capBegin s).2 = 0 ↔ ¬ s.take 4 = tap) ∧ ((capBegin s).2 = 0 → (capBegin s).1 = []) := by
  by_cases ht : s.take 4 = tap
  · rw [begin_yes ht]
    refine ⟨⟨fun h => ?_, fun h => absurd ht h⟩, fun h => ?_⟩
    · have : 4 + (capP 60 (s.drop 4) 0).2 = 0 := h
      omega
    · have : 4 + (capP 60 (s.drop 4) 0).2 = 0 := h
      omega
  · rw [begin_no ht]
    exact ⟨⟨fun _ => ht, fun _ => rfl⟩, fun _ => rfl⟩
theorem tap_long {s : List UInt8} (h : s.take 4 = tap) : 4 ≤ s.length := by
  have := congrArg List.length h
  rw [List.length_take] at this
  simp [tap] at this
  omega
theorem begin_cut {l : List Rec} (h : capB l = true) (k : Nat) (h4 : 4 ≤ k) (hk : k ≤ (capBytes l).length) :
    (capBegin ((capBytes l).take k)).2 ≤ k ∧ (capBegin ((capBytes l).take k)).1.length ≤ l.length ∧ (capBegin ((capBytes l).take k)).1 = l.take (capBegin ((capBytes l).take k)).1.length ∧ (k < (capBytes l).length ∨ (capBegin ((capBytes l).take k)).1.length = l.length) := by
  obtain ⟨h1, h2⟩ := capB_true h
  refine ⟨?_, ?_⟩
  · have := (begin_len ((capBytes l).take k)).2
    rw [List.length_take] at this
    omega
  · obtain ⟨m, rfl⟩ : ∃ m, k = 4 + m := ⟨k - 4, by omega⟩
    have e : (capBytes l).take (4 + m) = tap ++ (allBytes l).take m := by
      show (tap ++ allBytes l).take (tap.length + m) = _
      rw [List.take_length_add_append]
    rw [e, begin_tap]
    obtain ⟨j, hj, ej⟩ := capP_cut l 60 0 m h2 (by omega) h1
    have hl : (capP 60 ((allBytes l).take m) 0).1.length = j := by rw [ej, List.length_take]; omega
    show (capP 60 ((allBytes l).take m) 0).1.length ≤ _ ∧ (capP 60 ((allBytes l).take m) 0).1 = _ ∧ _
    rw [hl]
    refine ⟨hj, ej, ?_⟩
    by_cases hlt : 4 + m < (capBytes l).length
    · exact .inl hlt
    · right
      have hm : (allBytes l).take m = allBytes l := List.take_of_length_le (by have := cbytes_len l; omega)
      have e2 := capP_app l 60 0 [] h2 (by omega) h1 (by simp)
      rw [List.append_nil] at e2
      rw [hm, e2] at hl
      exact hl.symm
end Go.Proofs.Ytmphkogaclfjmaa
