/-
  Captures in plain Lean: when one is valid, its bytes, and what is read of bytes. No condition but those that each theorem bears.
-/
import Derived.Test.YtkhaodbcnnlhaaaByteP
namespace Go.Proofs.Ytkhaodbcnnlhaaa
set_option linter.unusedVariables false

abbrev Rec := Int × ByteArray
def recB (low : Int) (r : Rec) : Bool := decide (low ≤ r.1 ∧ r.1 ≤ 4294967295 ∧ r.2.size ≤ 120)
theorem recB_true {low : Int} {r : Rec} (h : recB low r = true) : low ≤ r.1 ∧ r.1 ≤ 4294967295 ∧ r.2.size ≤ 120 := of_decide_eq_true h
theorem recB_false {low : Int} {r : Rec} (h : recB low r = false) : ¬ (low ≤ r.1 ∧ r.1 ≤ 4294967295 ∧ r.2.size ≤ 120) := of_decide_eq_false h
theorem recB_mk {low : Int} {r : Rec} (h : low ≤ r.1 ∧ r.1 ≤ 4294967295 ∧ r.2.size ≤ 120) : recB low r = true := decide_eq_true h
theorem recB_no {low : Int} {r : Rec} (h : ¬ (low ≤ r.1 ∧ r.1 ≤ 4294967295 ∧ r.2.size ≤ 120)) : recB low r = false := decide_eq_false h
def timesB : Int → List Rec → Bool
  | _, [] => true
  | low, r :: l => recB low r && timesB r.1 l
def capB (l : List Rec) : Bool := decide (l.length ≤ 60) && timesB 0 l
theorem timesB_drop {l : List Rec} {k : Nat} {r : Rec} (h : l[k]? = some r) (low : Int) : timesB low (l.drop k) = (recB low r && timesB r.1 (l.drop (k + 1))) := by
  obtain ⟨hk, hz⟩ := List.getElem?_eq_some_iff.1 h
  rw [List.drop_eq_getElem_cons hk, hz]
  rfl
theorem timesB_end {l : List Rec} {k : Nat} (h : l.length ≤ k) (low : Int) : timesB low (l.drop k) = true := by
  rw [List.drop_of_length_le h]; rfl
theorem capB_true {l : List Rec} (h : capB l = true) : l.length ≤ 60 ∧ timesB 0 l = true := by
  unfold capB at h
  rw [Bool.and_eq_true] at h
  exact ⟨of_decide_eq_true h.1, h.2⟩
theorem timesB_low {low low' : Int} {l : List Rec} (h : timesB low l = true) (hl : low' ≤ low) : timesB low' l = true := by
  cases l with
  | nil => rfl
  | cons r l =>
    unfold timesB at h ⊢
    rw [Bool.and_eq_true] at h ⊢
    have := recB_true h.1
    exact ⟨recB_mk ⟨by omega, this.2⟩, h.2⟩

/-! ### What is written -/
def recBytes (r : Rec) : List UInt8 := long r.1.toNat ++ word r.2.size ++ bl r.2
theorem recBytes_len (r : Rec) : (recBytes r).length = 6 + r.2.size := by
  unfold recBytes
  simp only [List.length_append, long_len, word_len, bl_len]
def allBytes (l : List Rec) : List UInt8 := l.flatMap recBytes
theorem allBytes_cons (r : Rec) (l : List Rec) : allBytes (r :: l) = recBytes r ++ allBytes l := rfl
theorem allBytes_snoc (l : List Rec) (r : Rec) : allBytes (l ++ [r]) = allBytes l ++ recBytes r := by
  unfold allBytes
  simp
def tap : List UInt8 := [116, 97, 112, 49]
def capBytes (l : List Rec) : List UInt8 := tap ++ allBytes l
def capPut (l : List Rec) : ByteArray := if capB l then mk (capBytes l) else ⟨#[]⟩
theorem allBytes_len : ∀ (l : List Rec) (low : Int), timesB low l = true → (allBytes l).length ≤ 126 * l.length
  | [], _, _ => by simp [allBytes]
  | r :: l, low, h => by
    unfold timesB at h
    rw [Bool.and_eq_true] at h
    have h1 := recB_true h.1
    have h2 := allBytes_len l _ h.2
    rw [allBytes_cons, List.length_append, recBytes_len, List.length_cons]
    omega

/-! ### What is read -/
def capP : Nat → List UInt8 → Int → List Rec × Nat
  | 0, _, _ => ([], 0)
  | m + 1, l, low =>
    if 6 ≤ l.length ∧ low ≤ lAt l 0 ∧ wAt l 4 ≤ 120 ∧ 6 + wAt l 4 ≤ l.length then
      (((lAt l 0 : Int), mk ((l.drop 6).take (wAt l 4))) :: (capP m (l.drop (6 + wAt l 4)) (lAt l 0)).1, 6 + wAt l 4 + (capP m (l.drop (6 + wAt l 4)) (lAt l 0)).2)
    else ([], 0)
theorem capP_yes (m : Nat) (l : List UInt8) (low : Int) (h : 6 ≤ l.length ∧ low ≤ lAt l 0 ∧ wAt l 4 ≤ 120 ∧ 6 + wAt l 4 ≤ l.length) :
    capP (m + 1) l low = (((lAt l 0 : Int), mk ((l.drop 6).take (wAt l 4))) :: (capP m (l.drop (6 + wAt l 4)) (lAt l 0)).1, 6 + wAt l 4 + (capP m (l.drop (6 + wAt l 4)) (lAt l 0)).2) := by
  conv => lhs; unfold capP
  rw [if_pos h]
theorem capP_no (m : Nat) (l : List UInt8) (low : Int) (h : ¬ (6 ≤ l.length ∧ low ≤ lAt l 0 ∧ wAt l 4 ≤ 120 ∧ 6 + wAt l 4 ≤ l.length)) : capP m l low = ([], 0) := by
  cases m with
  | zero => rfl
  | succ m => unfold capP; rw [if_neg h]
theorem capP_ok : ∀ (m : Nat) (l : List UInt8) (low : Int), timesB low (capP m l low).1 = true ∧ (capP m l low).1.length ≤ m ∧ (capP m l low).2 ≤ l.length ∧ allBytes (capP m l low).1 = l.take (capP m l low).2
  | 0, l, low => ⟨rfl, Nat.le_refl _, Nat.zero_le _, by simp [capP, allBytes]⟩
  | m + 1, l, low => by
    by_cases h : 6 ≤ l.length ∧ low ≤ lAt l 0 ∧ wAt l 4 ≤ 120 ∧ 6 + wAt l 4 ≤ l.length
    · rw [capP_yes m l low h]
      obtain ⟨h1, h2, h3, h4⟩ := h
      obtain ⟨a, b, c, d⟩ := capP_ok m (l.drop (6 + wAt l 4)) (lAt l 0)
      have hl := lAt_lt l 0
      have hw := wAt_lt l 4
      have hs : ((l.drop 6).take (wAt l 4)).length = wAt l 4 := by rw [List.length_take, List.length_drop]; omega
      refine ⟨?_, ?_, ?_, ?_⟩
      · show (recB low ((lAt l 0 : Int), mk ((l.drop 6).take (wAt l 4))) && timesB _ _) = true
        rw [Bool.and_eq_true]
        refine ⟨recB_mk ⟨h2, ?_, ?_⟩, a⟩
        · show ((lAt l 0 : Nat) : Int) ≤ 4294967295
          omega
        · show (mk ((l.drop 6).take (wAt l 4))).size ≤ 120
          rw [mk_size, hs]
          exact h3
      · simp only [List.length_cons]; omega
      · rw [List.length_drop] at c
        show 6 + wAt l 4 + _ ≤ _
        omega
      · show recBytes _ ++ allBytes _ = l.take (6 + wAt l 4 + _)
        rw [d, List.take_add]
        congr 1
        unfold recBytes
        show long (lAt l 0 : Int).toNat ++ word (mk ((l.drop 6).take (wAt l 4))).size ++ bl (mk ((l.drop 6).take (wAt l 4))) = _
        rw [Int.toNat_natCast, mk_size, hs, bl_mk, long_lAt l (by omega), List.take_add]
        congr 1
        have := word_wAt (l.drop 4) (by rw [List.length_drop]; omega)
        rw [wAt_drop] at this
        rw [this, show (6 : Nat) = 4 + 2 from rfl, List.take_add]
    · rw [capP_no _ _ _ h]
      exact ⟨rfl, Nat.zero_le _, Nat.zero_le _, by simp [allBytes]⟩
theorem rec_head (r : Rec) (t : List UInt8) (low : Int) (h : recB low r = true) (h0 : 0 ≤ low) :
    lAt (recBytes r ++ t) 0 = r.1.toNat ∧ wAt (recBytes r ++ t) 4 = r.2.size ∧ (recBytes r ++ t).drop 6 = bl r.2 ++ t := by
  obtain ⟨h1, h2, h3⟩ := recB_true h
  unfold recBytes
  refine ⟨?_, ?_, ?_⟩
  · rw [List.append_assoc, List.append_assoc, lAt_left _ _ _ (by rw [long_len]; omega), lAt_long _ (by omega)]
  · rw [List.append_assoc, List.append_assoc]
    have := wAt_right (long r.1.toNat) (word r.2.size ++ (bl r.2 ++ t)) 0
    rw [long_len] at this
    rw [show 4 = 4 + 0 from rfl, this, wAt_left _ _ _ (by rw [word_len]; omega), wAt_word _ (by omega)]
  · rw [List.append_assoc, show (6 : Nat) = (long r.1.toNat ++ word r.2.size).length from rfl, List.drop_left]
theorem capP_app : ∀ (rs : List Rec) (m : Nat) (low : Int) (t : List UInt8), timesB low rs = true → 0 ≤ low → rs.length ≤ m → t.length < 6 → capP m (allBytes rs ++ t) low = (rs, (allBytes rs).length)
  | [], m, low, t, _, _, _, ht => by
    rw [capP_no]
    · rfl
    · simp [allBytes]; omega
  | r :: rs, 0, low, t, _, _, h, _ => by simp at h
  | r :: rs, m + 1, low, t, h, h0, hm, ht => by
    unfold timesB at h
    rw [Bool.and_eq_true] at h
    obtain ⟨h1, h2, h3⟩ := recB_true h.1
    rw [allBytes_cons, List.append_assoc]
    obtain ⟨e1, e2, e3⟩ := rec_head r (allBytes rs ++ t) low h.1 h0
    have hlen : (recBytes r ++ (allBytes rs ++ t)).length = 6 + r.2.size + (allBytes rs ++ t).length := by rw [List.length_append, recBytes_len]
    have e4 : (recBytes r ++ (allBytes rs ++ t)).drop (6 + wAt (recBytes r ++ (allBytes rs ++ t)) 4) = allBytes rs ++ t := by
      rw [e2, ← List.drop_drop, e3, ← bl_len, List.drop_left]
    have e5 : ((recBytes r ++ (allBytes rs ++ t)).drop 6).take (wAt (recBytes r ++ (allBytes rs ++ t)) 4) = bl r.2 := by
      rw [e2, e3, ← bl_len, List.take_left]
    have e6 : ((lAt (recBytes r ++ (allBytes rs ++ t)) 0 : Nat) : Int) = r.1 := by rw [e1]; omega
    rw [capP_yes m _ low ⟨by omega, by rw [e6]; exact h1, by rw [e2]; exact h3, by rw [e2]; omega⟩, e4, e5, e6, mk_bl]
    have := capP_app rs m r.1 t h.2 (by omega) (by simp at hm; omega) ht
    rw [this, e2]
    refine Prod.ext rfl ?_
    show 6 + r.2.size + (allBytes rs).length = (recBytes r ++ allBytes rs).length
    rw [List.length_append, recBytes_len]
theorem capP_cut : ∀ (rs : List Rec) (m : Nat) (low : Int) (k : Nat), timesB low rs = true → 0 ≤ low → rs.length ≤ m → ∃ j, j ≤ rs.length ∧ (capP m ((allBytes rs).take k) low).1 = rs.take j
  | [], m, low, k, _, _, _ => ⟨0, Nat.le_refl _, by
    rw [capP_no]
    · rfl
    · simp [allBytes]⟩
  | r :: rs, 0, low, k, _, _, h => by simp at h
  | r :: rs, m + 1, low, k, h, h0, hm => by
    unfold timesB at h
    rw [Bool.and_eq_true] at h
    obtain ⟨h1, h2, h3⟩ := recB_true h.1
    by_cases hk : 6 + r.2.size ≤ k
    · obtain ⟨j, hj, e⟩ := capP_cut rs m r.1 (k - (6 + r.2.size)) h.2 (by omega) (by simp at hm; omega)
      refine ⟨j + 1, by simp; omega, ?_⟩
      have et : (allBytes (r :: rs)).take k = recBytes r ++ (allBytes rs).take (k - (6 + r.2.size)) := by
        rw [allBytes_cons, List.take_append, recBytes_len, List.take_of_length_le (by rw [recBytes_len]; exact hk)]
      rw [et]
      generalize (allBytes rs).take (k - (6 + r.2.size)) = t at e
      obtain ⟨e1, e2, e3⟩ := rec_head r t low h.1 h0
      have hlen : (recBytes r ++ t).length = 6 + r.2.size + t.length := by rw [List.length_append, recBytes_len]
      have e4 : (recBytes r ++ t).drop (6 + wAt (recBytes r ++ t) 4) = t := by
        rw [e2, ← List.drop_drop, e3, ← bl_len, List.drop_left]
      have e5 : ((recBytes r ++ t).drop 6).take (wAt (recBytes r ++ t) 4) = bl r.2 := by
        rw [e2, e3, ← bl_len, List.take_left]
      have e6 : ((lAt (recBytes r ++ t) 0 : Nat) : Int) = r.1 := by rw [e1]; omega
      rw [capP_yes m _ low ⟨by omega, by rw [e6]; exact h1, by rw [e2]; exact h3, by rw [e2]; omega⟩, e4, e5, e6, mk_bl]
      show _ :: _ = _
      rw [e]
      rfl
    · refine ⟨0, Nat.zero_le _, ?_⟩
      rw [capP_no]
      · rfl
      · rintro ⟨g1, g2, g3, g4⟩
        have hl : ((allBytes (r :: rs)).take k).length ≤ k := List.length_take_le _ _
        rw [allBytes_cons, wAt_take _ _ _ (by omega)] at g4
        obtain ⟨e1, e2, e3⟩ := rec_head r (allBytes rs) low h.1 h0
        rw [e2] at g4
        rw [← allBytes_cons] at g4
        omega

/-! ### The beginning of bytes -/
def capBegin (s : List UInt8) : List Rec × Nat := if s.take 4 = tap then ((capP 60 (s.drop 4) 0).1, 4 + (capP 60 (s.drop 4) 0).2) else ([], 0)
theorem begin_yes {s : List UInt8} (h : s.take 4 = tap) : capBegin s = ((capP 60 (s.drop 4) 0).1, 4 + (capP 60 (s.drop 4) 0).2) := if_pos h
theorem begin_no {s : List UInt8} (h : ¬ s.take 4 = tap) : capBegin s = ([], 0) := if_neg h
theorem begin_tap (s : List UInt8) : capBegin (tap ++ s) = ((capP 60 s 0).1, 4 + (capP 60 s 0).2) := begin_yes rfl
theorem tap_split {s : List UInt8} (h : s.take 4 = tap) : s = tap ++ s.drop 4 := by rw [← h, List.take_append_drop]
theorem begin_all (rs : List Rec) (t : List UInt8) (h : capB rs = true) (ht : t.length < 6) : capBegin (capBytes rs ++ t) = (rs, (capBytes rs).length) := by
  obtain ⟨h1, h2⟩ := capB_true h
  unfold capBytes
  rw [List.append_assoc, begin_tap, capP_app rs 60 0 t h2 (by omega) h1 ht]
  refine Prod.ext rfl ?_
  rw [List.length_append]
  rfl
theorem begin_bytes {s : List UInt8} (h : (capBegin s).2 ≠ 0) : s.take 4 = tap ∧ capB (capBegin s).1 = true ∧ capBytes (capBegin s).1 = s.take (capBegin s).2 ∧ (capBegin s).2 ≤ s.length := by
  by_cases ht : s.take 4 = tap
  · rw [begin_yes ht]
    obtain ⟨a, b, c, d⟩ := capP_ok 60 (s.drop 4) 0
    have hl : 4 ≤ s.length := by
      have := congrArg List.length ht
      rw [List.length_take] at this
      simp [tap] at this
      omega
    refine ⟨ht, ?_, ?_, ?_⟩
    · unfold capB
      rw [a, Bool.and_true]
      exact decide_eq_true b
    · show tap ++ allBytes _ = s.take (4 + _)
      rw [d, List.take_add, ht]
    · rw [List.length_drop] at c
      show 4 + _ ≤ _
      omega
  · rw [begin_no ht] at h
    exact absurd rfl h
theorem begin_len (s : List UInt8) : (capBegin s).1.length ≤ 60 ∧ (capBegin s).2 ≤ s.length := by
  by_cases h : (capBegin s).2 = 0
  · refine ⟨?_, by omega⟩
    by_cases ht : s.take 4 = tap
    · rw [begin_yes ht]
      exact (capP_ok 60 (s.drop 4) 0).2.1
    · rw [begin_no ht]; simp
  · obtain ⟨_, a, _, b⟩ := begin_bytes h
    exact ⟨(capB_true a).1, b⟩
end Go.Proofs.Ytkhaodbcnnlhaaa
