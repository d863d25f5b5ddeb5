/-
  The beginning of a capture, record by record, in plain Lean. No condition but those that each theorem bears.
-/
import Derived.Test.YtkhaodbcnnlhaaaCapP
namespace Go.Proofs.Ytkhaodbcnnlhaaa
set_option linter.unusedVariables false

/-- What has been read so far: the records l, up to the place a, the last time L. -/
def begR (s : List UInt8) (l : List Rec) (a : Nat) (L : Int) : Prop := capBegin s = (l ++ (capP (60 - l.length) (s.drop a) L).1, a + (capP (60 - l.length) (s.drop a) L).2)
theorem begR_start {s : List UInt8} (h : s.take 4 = tap) : begR s [] 4 0 := by
  unfold begR
  rw [begin_yes h]
  rfl
def recAt (s : List UInt8) (a : Nat) : Rec := ((lAt s a : Int), mk ((s.drop (a + 6)).take (wAt s (a + 4))))
theorem begR_step {s : List UInt8} {l : List Rec} {a : Nat} {L : Int} (h : begR s l a L) (hl : l.length < 60) (h1 : a + 6 ≤ s.length) (h2 : L ≤ lAt s a) (h3 : wAt s (a + 4) ≤ 120) (h4 : a + 6 + wAt s (a + 4) ≤ s.length) :
    begR s (l ++ [recAt s a]) (a + 6 + wAt s (a + 4)) (lAt s a) := by
  unfold begR at h ⊢
  rw [h]
  obtain ⟨m, hm⟩ : ∃ m, 60 - l.length = m + 1 := ⟨59 - l.length, by omega⟩
  have e0 : lAt (s.drop a) 0 = lAt s a := by rw [lAt_drop, Nat.add_zero]
  have e4 : wAt (s.drop a) 4 = wAt s (a + 4) := by rw [wAt_drop]
  have hlen : (s.drop a).length = s.length - a := List.length_drop
  have hm2 : 60 - (l ++ [recAt s a]).length = m := by rw [List.length_append]; simp; omega
  rw [hm, hm2, capP_yes m (s.drop a) L ⟨by omega, by rw [e0]; exact h2, by rw [e4]; exact h3, by rw [e4]; omega⟩, e0, e4, List.drop_drop, List.drop_drop, show a + (6 + wAt s (a + 4)) = a + 6 + wAt s (a + 4) from by omega]
  refine Prod.ext ?_ ?_
  · show l ++ _ :: _ = (l ++ [recAt s a]) ++ _
    rw [List.append_assoc]
    rfl
  · show a + (6 + wAt s (a + 4) + _) = a + 6 + wAt s (a + 4) + _
    omega
theorem begR_end {s : List UInt8} {l : List Rec} {a : Nat} {L : Int} (h : begR s l a L) (hn : ¬ (l.length < 60 ∧ a + 6 ≤ s.length ∧ L ≤ lAt s a ∧ wAt s (a + 4) ≤ 120 ∧ a + 6 + wAt s (a + 4) ≤ s.length)) (hl : l.length ≤ 60) (ha : a ≤ s.length) : capBegin s = (l, a) := by
  unfold begR at h
  rw [h]
  have e : capP (60 - l.length) (s.drop a) L = ([], 0) := by
    by_cases h60 : l.length < 60
    · refine capP_no _ _ _ (fun hh => hn ?_)
      rw [lAt_drop, wAt_drop, Nat.add_zero, List.length_drop] at hh
      omega
    · rw [show 60 - l.length = 0 from by omega]
      rfl
  rw [e]
  simp
theorem begR_len {s : List UInt8} {l : List Rec} {a : Nat} (h : capBegin s = (l, a)) : l.length ≤ 60 ∧ a ≤ s.length := by
  have := begin_len s
  rw [h] at this
  exact this
def capGet (s : List UInt8) : List Rec × Bool := if (capBegin s).2 = s.length ∧ (capBegin s).2 ≠ 0 then ((capBegin s).1, true) else ([], false)
theorem capGet_yes {s : List UInt8} (h : (capBegin s).2 = s.length ∧ (capBegin s).2 ≠ 0) : capGet s = ((capBegin s).1, true) := if_pos h
theorem capGet_no {s : List UInt8} (h : ¬ ((capBegin s).2 = s.length ∧ (capBegin s).2 ≠ 0)) : capGet s = ([], false) := if_neg h
/-- A mark's text. -/
def mt : Nat → Nat → List UInt8 → List UInt8
  | 0, _, acc => acc
  | f + 1, k, acc => if k = 0 then acc else mt f (k / 10) (UInt8.ofNat (48 + k % 10) :: acc)
theorem mt_zero (f : Nat) (acc : List UInt8) : mt f 0 acc = acc := by
  cases f with
  | zero => rfl
  | succ f => unfold mt; rw [if_pos rfl]
theorem mt_step (f k : Nat) (acc : List UInt8) (hk : 0 < k) : mt (f + 1) k acc = mt f (k / 10) (UInt8.ofNat (48 + k % 10) :: acc) := by
  conv => lhs; unfold mt
  rw [if_neg (by omega)]
def mtext (k : Nat) : ByteArray := mk (109 :: mt k k [])
end Go.Proofs.Ytkhaodbcnnlhaaa
