/-
  The messages that parts complete: the program starts a text anew at each first part, the reference behind each last one; on the parts of a valid side both are the same. Conditions: those that each theorem bears.
-/
import Derived.Test.YtkhaodbcnnlhaaaMsg
import Derived.Test.YtkhaodbcnnlhaaaSideV
namespace Go.Proofs.Ytkhaodbcnnlhaaa
open Go.ChangeShapes Go.WideShapes Go.ChangeAt Go.RowKit
set_option linter.unusedVariables false
set_option linter.unusedSimpArgs false
def freshT (b : Bool) (t : ByteArray) : ByteArray := if b then ⟨#[]⟩ else t
def saidI : List Dat → ByteArray → List Msg
  | [], _ => []
  | d :: l, t => if d.last then ⟨d.stream, d.ssn, d.loose, freshT d.first t ++ d.text⟩ :: saidI l (freshT d.first t ++ d.text) else saidI l (freshT d.first t ++ d.text)
def saidS : List Dat → ByteArray → List Msg
  | [], _ => []
  | d :: l, t => if d.last then ⟨d.stream, d.ssn, d.loose, t ++ d.text⟩ :: saidS l ⟨#[]⟩ else saidS l (t ++ d.text)
theorem saidI_yes {l : List Dat} {k : Nat} {d : Dat} (h : l[k]? = some d) (hl : d.last = true) (t : ByteArray) : saidI (l.drop k) t = [⟨d.stream, d.ssn, d.loose, freshT d.first t ++ d.text⟩] ++ saidI (l.drop (k + 1)) (freshT d.first t ++ d.text) := by
  rw [List.drop_eq_getElem_cons (List.getElem?_eq_some_iff.1 h).1, (List.getElem?_eq_some_iff.1 h).2, saidI, if_pos hl]
  rfl
theorem saidI_no {l : List Dat} {k : Nat} {d : Dat} (h : l[k]? = some d) (hl : d.last = false) (t : ByteArray) : saidI (l.drop k) t = saidI (l.drop (k + 1)) (freshT d.first t ++ d.text) := by
  rw [List.drop_eq_getElem_cons (List.getElem?_eq_some_iff.1 h).1, (List.getElem?_eq_some_iff.1 h).2, saidI, if_neg (by rw [hl]; decide)]
theorem saidS_yes {l : List Dat} {k : Nat} {d : Dat} (h : l[k]? = some d) (hl : d.last = true) (t : ByteArray) : saidS (l.drop k) t = [⟨d.stream, d.ssn, d.loose, t ++ d.text⟩] ++ saidS (l.drop (k + 1)) ⟨#[]⟩ := by
  rw [List.drop_eq_getElem_cons (List.getElem?_eq_some_iff.1 h).1, (List.getElem?_eq_some_iff.1 h).2, saidS, if_pos hl]
  rfl
theorem saidS_no {l : List Dat} {k : Nat} {d : Dat} (h : l[k]? = some d) (hl : d.last = false) (t : ByteArray) : saidS (l.drop k) t = saidS (l.drop (k + 1)) (t ++ d.text) := by
  rw [List.drop_eq_getElem_cons (List.getElem?_eq_some_iff.1 h).1, (List.getElem?_eq_some_iff.1 h).2, saidS, if_neg (by rw [hl]; decide)]
theorem saidI_end {l : List Dat} {k : Nat} (h : l.length ≤ k) (t : ByteArray) : saidI (l.drop k) t = [] := by rw [List.drop_eq_nil_of_le h]; rfl
theorem saidS_end {l : List Dat} {k : Nat} (h : l.length ≤ k) (t : ByteArray) : saidS (l.drop k) t = [] := by rw [List.drop_eq_nil_of_le h]; rfl
theorem saidS_len : ∀ (l : List Dat) (t : ByteArray), (saidS l t).length ≤ l.length
  | [], _ => Nat.le_refl _
  | d :: l, t => by
    unfold saidS
    split
    · have := saidS_len l ⟨#[]⟩; simp only [List.length_cons]; omega
    · have := saidS_len l (t ++ d.text); simp only [List.length_cons]; omega
/-- Parts of which each begins a message just where the one ahead has ended it. -/
def inTurn : Bool → List Dat → Prop
  | _, [] => True
  | p, d :: l => d.first = p ∧ inTurn d.last l
theorem inTurn_take : ∀ (l : List Dat) (p : Bool) (k : Nat), inTurn p l → inTurn p (l.take k)
  | [], _, _, _ => by simp [inTurn]
  | d :: l, p, 0, _ => trivial
  | d :: l, p, k + 1, h => ⟨h.1, inTurn_take l d.last k h.2⟩
theorem said_same : ∀ (l : List Dat) (p : Bool) (t u : ByteArray), inTurn p l → (p = true → u = ⟨#[]⟩) → (p = false → u = t) → saidI l t = saidS l u
  | [], _, _, _, _, _, _ => rfl
  | d :: l, p, t, u, h, h1, h2 => by
    have e : freshT d.first t = u := by
      rw [h.1]
      cases p with
      | true => rw [h1 rfl]; rfl
      | false => rw [h2 rfl]; rfl
    unfold saidI saidS
    rw [e]
    cases hl : d.last with
    | true =>
      simp only [if_true]
      rw [said_same l true (u ++ d.text) ⟨#[]⟩ (by have := h.2; rwa [hl] at this) (fun _ => rfl) (fun e => by cases e)]
    | false =>
      simp only [Bool.false_eq_true, if_false]
      exact said_same l false (u ++ d.text) (u ++ d.text) (by have := h.2; rwa [hl] at this) (fun e => by cases e) (fun _ => rfl)
def lastAt (ps : List Dat) (k : Nat) : Bool := match ps[k - 1]? with
  | some x => k == 0 || x.last
  | none => true
theorem base_first {l : List Dat} {d : Dat} (h : baseB l d = true) : d.first = true := by
  unfold baseB at h
  simp only [Bool.and_eq_true] at h
  exact h.1
theorem sent_turn {f : Nat → Int} {st : Int} {ps : List Dat} : ∀ (n k : Nat), ps.length - k = n → sentFrom f st ps (ps.drop k) k = true → inTurn (lastAt ps k) (ps.drop k)
  | 0, k, hn, _ => by
    rw [List.drop_eq_nil_of_le (by omega)]
    trivial
  | n + 1, k, hn, h => by
    obtain ⟨d, hd⟩ := fget_of_lt (xs := ps) (k := k) (by omega)
    rw [sent_drop hd] at h
    simp only [Bool.and_eq_true] at h
    have ih := sent_turn n (k + 1) (by omega) h.2
    have e1 : lastAt ps (k + 1) = d.last := by
      unfold lastAt
      rw [Nat.add_sub_cancel, hd]
      simp
    rw [e1] at ih
    rw [List.drop_eq_getElem_cons (List.getElem?_eq_some_iff.1 hd).1, (List.getElem?_eq_some_iff.1 hd).2]
    refine ⟨?_, ih⟩
    have hf := h.1.2
    cases k with
    | zero =>
      rw [List.take_zero, follow_nil] at hf
      rw [base_first hf]
      unfold lastAt
      split <;> simp
    | succ m =>
      obtain ⟨x, hx⟩ := fget_of_lt (xs := ps) (k := m) (by have := (List.getElem?_eq_some_iff.1 hd).1; omega)
      have hlt : (ps.take (m + 1)).length = m + 1 := by rw [List.length_take]; have := (List.getElem?_eq_some_iff.1 hd).1; omega
      have hxt : (ps.take (m + 1))[m]? = some x := by rw [List.getElem?_take, if_pos (by omega)]; exact hx
      have e2 : lastAt ps (m + 1) = x.last := by
        unfold lastAt
        rw [Nat.add_sub_cancel, hx]
        simp
      rw [e2]
      cases hl : x.last with
      | true =>
        rw [follow_last hlt hxt d hl] at hf
        exact base_first hf
      | false =>
        rw [follow_on hlt hxt d hl] at hf
        simp only [Bool.and_eq_true, Bool.not_eq_true'] at hf
        exact hf.1
theorem side_turn {tag st fi ac : Int} {ps : List Dat} (h : sideB tag st fi ac ps = true) : inTurn true ps ∧ 0 ≤ ac ∧ ac ≤ ps.length ∧ ps.length ≤ 12 := by
  unfold sideB at h
  by_cases ht : tag = 0
  · rw [if_pos ht] at h
    simp only [Bool.and_eq_true, decide_eq_true_eq] at h
    have hz : ps = [] := List.eq_nil_of_length_eq_zero h.1.2
    subst hz
    exact ⟨trivial, by omega, by simp; omega, by simp⟩
  · rw [if_neg ht] at h
    simp only [Bool.and_eq_true] at h
    unfold headB at h
    simp only [Bool.and_eq_true, decide_eq_true_eq] at h
    have := sent_turn ps.length 0 (by omega) h.2
    refine ⟨?_, h.1.2.1, h.1.2.2, h.1.1.2⟩
    have e : lastAt ps 0 = true := by unfold lastAt; split <;> simp
    rw [e] at this
    exact this
theorem sent_ok {f : Nat → Int} {st : Int} {ps : List Dat} : ∀ (l : List Dat) (k : Nat), sentFrom f st ps l k = true → ∀ d ∈ l, datB d = true
  | [], _, _, d, hd => by simp at hd
  | x :: l, k, h, d, hd => by
    simp only [sentFrom, Bool.and_eq_true] at h
    rcases List.mem_cons.1 hd with rfl | hd
    · exact h.1.1.1.1
    · exact sent_ok l (k + 1) h.2 d hd
theorem side_ok {tag st fi ac : Int} {ps : List Dat} (h : sideB tag st fi ac ps = true) : ∀ d ∈ ps, d.text.size ≤ 20 := by
  unfold sideB at h
  by_cases ht : tag = 0
  · rw [if_pos ht] at h
    simp only [Bool.and_eq_true, decide_eq_true_eq] at h
    have hz : ps = [] := List.eq_nil_of_length_eq_zero h.1.2
    subst hz
    intro d hd
    simp at hd
  · rw [if_neg ht] at h
    simp only [Bool.and_eq_true] at h
    exact fun d hd => (datB_true (sent_ok ps 0 h.2 d hd)).2.2.2.2
/-- What both return of a side. -/
def knownL (tag st fi ac : Int) (ps : List Dat) : List Msg := if sideB tag st fi ac ps = true then saidS (ps.take ac.toNat) ⟨#[]⟩ else []
theorem known_yes {tag st fi ac : Int} {ps : List Dat} (h : sideB tag st fi ac ps = true) : knownL tag st fi ac ps = saidS (ps.take ac.toNat) ⟨#[]⟩ := if_pos h
theorem known_no {tag st fi ac : Int} {ps : List Dat} (h : sideB tag st fi ac ps = false) : knownL tag st fi ac ps = [] := if_neg (by rw [h]; decide)
theorem known_imp {tag st fi ac : Int} {ps : List Dat} (h : sideB tag st fi ac ps = true) : saidI (ps.take ac.toNat) ⟨#[]⟩ = knownL tag st fi ac ps := by
  rw [known_yes h]
  exact said_same _ true _ _ (inTurn_take _ _ _ (side_turn h).1) (fun _ => rfl) (fun e => by cases e)
theorem known_len {tag st fi ac : Int} {ps : List Dat} : (knownL tag st fi ac ps).length ≤ 12 := by
  unfold knownL
  split
  · rename_i h
    have h1 := saidS_len (ps.take ac.toNat) ⟨#[]⟩
    have h2 := (side_turn h).2.2.2
    rw [List.length_take] at h1
    omega
  · exact Nat.zero_le _
def MadeMsgs (l : List Msg) (w : World) (e : Ending) (w' : World) : Prop :=
  ∃ A n c, e = .returned (.slice A n c) ∧ l.length = n ∧ Own w' w.heap.size 64 4 A n c (msgs l) ∧ Below w.heap.size w w'
end Go.Proofs.Ytkhaodbcnnlhaaa
