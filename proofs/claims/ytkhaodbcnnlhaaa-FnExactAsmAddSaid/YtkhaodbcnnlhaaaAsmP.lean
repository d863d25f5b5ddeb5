/-
  What an assembly does with a part, in plain Lean: the chain of a complete message, the first message that is due, what is taken out, all that follows. Conditions: those that each theorem bears.
-/
import Derived.Test.YtkhaodbcnnlhaaaAsmV
import Derived.Test.YtkhaodbcnnlhaaaSideA
import Derived.Test.YtkhaodbcnnlhaaaMsg
namespace Go.Proofs.Ytkhaodbcnnlhaaa
open Go.ChangeShapes Go.WideShapes Go.ChangeAt Go.RowKit
set_option linter.unusedVariables false
set_option linter.unusedSimpArgs false
theorem atK_hit (t : Int) : ∀ (l : List Dat) (k : Nat), 0 ≤ atK t l k → ∃ (i : Nat) (d : Dat), atK t l k = ((k + i : Nat) : Int) ∧ l[i]? = some d ∧ d.tsn = t
  | [], k, h => by simp [atK] at h
  | d :: l, k, h => by
    unfold atK at h ⊢
    by_cases hd : d.tsn = t
    · exact ⟨0, d, by rw [if_pos hd]; rfl, rfl, hd⟩
    · rw [if_neg hd] at h ⊢
      obtain ⟨i, e, h1, h2, h3⟩ := atK_hit t l (k + 1) h
      exact ⟨i + 1, e, by rw [h1]; congr 1; omega, h2, h3⟩
theorem atK_cases (t : Int) (l : List Dat) : (atK t l 0 < 0) ∨ ∃ (i : Nat) (d : Dat), atK t l 0 = (i : Int) ∧ l[i]? = some d ∧ d.tsn = t := by
  by_cases h : atK t l 0 < 0
  · exact .inl h
  · obtain ⟨i, d, h1, h2⟩ := atK_hit t l 0 (by omega)
    exact .inr ⟨i, d, by rw [h1, Nat.zero_add], h2⟩
/-- The parts of a message, from one on; none if it is not complete. -/
def chainA (ps : List Dat) : Nat → Nat → List Nat → List Nat
  | 0, _, _ => []
  | f + 1, k, acc =>
    match ps[k]? with
    | none => []
    | some d =>
      if d.last then acc
      else if atK (sadd d.tsn 1) ps 0 < 0 then []
      else match ps[(atK (sadd d.tsn 1) ps 0).toNat]? with
        | none => []
        | some e => if e.first || !likeB e d then [] else chainA ps f (atK (sadd d.tsn 1) ps 0).toNat (acc ++ [(atK (sadd d.tsn 1) ps 0).toNat])
section
variable {ps : List Dat} {f k j : Nat} {acc : List Nat} {d e : Dat}
theorem chain_last (h : ps[k]? = some d) (hl : d.last = true) : chainA ps (f + 1) k acc = acc := by
  unfold chainA
  simp only [h, hl, if_true]
theorem chain_none (h : ps[k]? = some d) (hl : d.last = false) (ha : atK (sadd d.tsn 1) ps 0 < 0) : chainA ps (f + 1) k acc = [] := by
  unfold chainA
  simp only [h, hl, if_pos ha, Bool.false_eq_true, if_false]
theorem chain_bad (h : ps[k]? = some d) (hl : d.last = false) (ha : atK (sadd d.tsn 1) ps 0 = (j : Int)) (he : ps[j]? = some e) (hb : (e.first || !likeB e d) = true) : chainA ps (f + 1) k acc = [] := by
  unfold chainA
  have hn : ¬ ((j : Int) < 0) := by omega
  have ht : ((j : Int)).toNat = j := by omega
  simp only [h, hl, ha, if_neg hn, Bool.false_eq_true, if_false, ht, he, hb, if_true]
theorem chain_step (h : ps[k]? = some d) (hl : d.last = false) (ha : atK (sadd d.tsn 1) ps 0 = (j : Int)) (he : ps[j]? = some e) (hb : (e.first || !likeB e d) = false) : chainA ps (f + 1) k acc = chainA ps f j (acc ++ [j]) := by
  rw [chainA]
  have hn : ¬ ((j : Int) < 0) := by omega
  have ht : ((j : Int)).toNat = j := by omega
  simp only [h, hl, ha, if_neg hn, Bool.false_eq_true, if_false, ht, he, hb]
end
/-- The numbers of a chain's parts follow each other. -/
def Good (ps : List Dat) (k : Nat) (acc : List Nat) : Prop :=
  (∃ m, acc.length = m + 1 ∧ acc[m]? = some k) ∧ ∃ t : Int, ∀ (i x : Nat), acc[i]? = some x → ∃ d : Dat, ps[x]? = some d ∧ d.tsn = (t + (i : Int)) % 65536
theorem nodup_len : ∀ (n : Nat) (l : List Nat), l.Nodup → (∀ x ∈ l, x < n) → l.length ≤ n
  | 0, l, _, h => by
    cases l with
    | nil => exact Nat.le_refl _
    | cons x l => exact absurd (h x (List.mem_cons_self ..)) (Nat.not_lt_zero _)
  | n + 1, l, hd, h => by
    have h1 : (l.erase n).length ≤ n := nodup_len n (l.erase n) (hd.erase n) (fun x hx => by
      have := (hd.mem_erase_iff).1 hx
      have := h x this.2
      omega)
    have h2 := List.length_erase (a := n) (l := l)
    split at h2 <;> omega
theorem good_start {ps : List Dat} {k : Nat} {d : Dat} (h : ps[k]? = some d) (hd : okB d.tsn = true) : Good ps k [k] := by
  refine ⟨⟨0, rfl, rfl⟩, d.tsn, ?_⟩
  intro i x hx
  cases i with
  | zero =>
    injection hx with hx
    subst hx
    have := okB_true hd
    exact ⟨d, h, by omega⟩
  | succ i => simp at hx
theorem good_lt {ps : List Dat} {k : Nat} {acc : List Nat} (h : Good ps k acc) {i x : Nat} (hx : acc[i]? = some x) : x < ps.length := by
  obtain ⟨_, t, ht⟩ := h
  obtain ⟨d, hd, _⟩ := ht i x hx
  exact (List.getElem?_eq_some_iff.1 hd).1
theorem good_nodup {ps : List Dat} {k : Nat} {acc : List Nat} (h : Good ps k acc) (hl : acc.length ≤ 65536) : acc.Nodup := by
  obtain ⟨_, t, ht⟩ := h
  rw [List.Nodup, List.pairwise_iff_getElem]
  intro i j hi hj hij he
  obtain ⟨d, hd, h1⟩ := ht i _ (List.getElem?_eq_getElem hi)
  obtain ⟨e, hd2, h2⟩ := ht j _ (List.getElem?_eq_getElem hj)
  rw [he, hd2] at hd
  injection hd with hd
  rw [hd, h1] at h2
  omega
theorem good_len {ps : List Dat} {k : Nat} {acc : List Nat} (h : Good ps k acc) (hl : acc.length ≤ 65536) : acc.length ≤ ps.length :=
  nodup_len _ _ (good_nodup h hl) (fun x hx => by
    obtain ⟨i, hi⟩ := List.mem_iff_getElem?.1 hx
    exact good_lt h hi)
theorem good_step {ps : List Dat} {k j : Nat} {acc : List Nat} {d e : Dat} (h : Good ps k acc) (hd : ps[k]? = some d) (he : ps[j]? = some e) (ht : e.tsn = sadd d.tsn 1) : Good ps j (acc ++ [j]) := by
  obtain ⟨⟨m, hm, hk⟩, t, h2⟩ := h
  refine ⟨⟨m + 1, by rw [List.length_append, hm]; rfl, by rw [List.getElem?_append_right (by omega), hm]; simp⟩, t, ?_⟩
  intro i x hx
  by_cases hi : i < acc.length
  · rw [List.getElem?_append_left hi] at hx
    exact h2 i x hx
  · rw [List.getElem?_append_right (by omega)] at hx
    have hi2 : i = m + 1 := by
      have := (List.getElem?_eq_some_iff.1 hx).1
      simp at this
      omega
    subst hi2
    rw [hm] at hx
    simp at hx
    subst hx
    obtain ⟨d', hd', h3⟩ := h2 m k hk
    rw [hd] at hd'
    injection hd' with hd'
    subst hd'
    refine ⟨e, he, ?_⟩
    rw [ht, sadd_of _ _ (okB_mk (by omega)), h3]
    omega
theorem good_in {ps : List Dat} {k : Nat} {acc : List Nat} (h : Good ps k acc) : ∃ d, ps[k]? = some d ∧ okB d.tsn = true := by
  obtain ⟨⟨m, hm, hk⟩, t, h2⟩ := h
  obtain ⟨d, hd, h3⟩ := h2 m k hk
  exact ⟨d, hd, okB_mk (by omega)⟩
/-- A chain that is not empty: it begins where it was begun, and all of its parts are there. -/
theorem chain_spec {ps : List Dat} (hn : ps.length ≤ 13) : ∀ (f k : Nat) (acc : List Nat), Good ps k acc → acc.length ≤ 13 → chainA ps f k acc = [] ∨ (∃ c, chainA ps f k acc = acc ++ c) ∧ (∀ x ∈ chainA ps f k acc, x < ps.length) ∧ (chainA ps f k acc).length ≤ 13
  | 0, _, _, _, _ => .inl rfl
  | f + 1, k, acc, hg, hl => by
    obtain ⟨d, hd, _⟩ := good_in hg
    cases hla : d.last with
    | true =>
      rw [chain_last hd hla]
      exact .inr ⟨⟨[], (List.append_nil _).symm⟩, fun x hx => by
        obtain ⟨i, hi⟩ := List.mem_iff_getElem?.1 hx
        exact good_lt hg hi, hl⟩
    | false =>
      rcases atK_cases (sadd d.tsn 1) ps with ha | ⟨j, e, ha, he, ht⟩
      · exact .inl (chain_none hd hla ha)
      · cases hb : (e.first || !likeB e d) with
        | true => exact .inl (chain_bad hd hla ha he hb)
        | false =>
          rw [chain_step hd hla ha he hb]
          have hg2 := good_step hg hd he ht
          have h13 := good_len hg2 (by simp; omega)
          rcases chain_spec hn f j (acc ++ [j]) hg2 (by omega) with h | ⟨⟨c, h⟩, h2, h3⟩
          · exact .inl h
          · exact .inr ⟨⟨[j] ++ c, by rw [h, List.append_assoc]⟩, h2, h3⟩
def chainP (ps : List Dat) (k : Nat) : List Nat := chainA ps 14 k [k]
theorem chainP_spec {ps : List Dat} (hn : ps.length ≤ 13) {k : Nat} {d : Dat} (h : ps[k]? = some d) (hd : okB d.tsn = true) : chainP ps k = [] ∨ (∃ c, chainP ps k = k :: c) ∧ (∀ x ∈ chainP ps k, x < ps.length) ∧ (chainP ps k).length ≤ 13 := by
  rcases chain_spec hn 14 k [k] (good_start h hd) (by simp) with h | ⟨⟨c, h⟩, h2, h3⟩
  · exact .inl h
  · exact .inr ⟨⟨c, h⟩, h2, h3⟩
/-- Whether a part begins a message whose turn it is. -/
def turnB (nx : List Int) (d : Dat) : Bool := d.first && (d.loose || nx[d.stream.toNat]? == some d.ssn)
def dueA (nx : List Int) (ps : List Dat) : List Dat → Nat → List Nat
  | [], _ => []
  | d :: l, k => if turnB nx d = true ∧ chainP ps k ≠ [] then chainP ps k else dueA nx ps l (k + 1)
theorem due_yes {nx : List Int} {ps : List Dat} {k : Nat} {d : Dat} (h : ps[k]? = some d) (ht : turnB nx d = true) (hc : chainP ps k ≠ []) : dueA nx ps (ps.drop k) k = chainP ps k := by
  rw [List.drop_eq_getElem_cons (List.getElem?_eq_some_iff.1 h).1, (List.getElem?_eq_some_iff.1 h).2, dueA, if_pos ⟨ht, hc⟩]
theorem due_no {nx : List Int} {ps : List Dat} {k : Nat} {d : Dat} (h : ps[k]? = some d) (ht : turnB nx d = false ∨ chainP ps k = []) : dueA nx ps (ps.drop k) k = dueA nx ps (ps.drop (k + 1)) (k + 1) := by
  rw [List.drop_eq_getElem_cons (List.getElem?_eq_some_iff.1 h).1, (List.getElem?_eq_some_iff.1 h).2, dueA, if_neg]
  rintro ⟨h1, h2⟩
  rcases ht with ht | ht
  · rw [ht] at h1; cases h1
  · exact h2 ht
theorem due_end {nx : List Int} {ps : List Dat} {k : Nat} (h : ps.length ≤ k) : dueA nx ps (ps.drop k) k = [] := by rw [List.drop_eq_nil_of_le h]; rfl
/-- A message that is due: it begins with a part whose turn it is. -/
theorem due_spec {nx : List Int} {ps : List Dat} (hn : ps.length ≤ 13) (hd : ∀ d ∈ ps, datB d = true) : ∀ (n k : Nat), ps.length - k = n → dueA nx ps (ps.drop k) k = [] ∨
    ∃ (x : Nat) (c : List Nat) (d : Dat), dueA nx ps (ps.drop k) k = x :: c ∧ ps[x]? = some d ∧ turnB nx d = true ∧ (∀ y ∈ x :: c, y < ps.length) ∧ (x :: c).length ≤ 13
  | 0, k, h => .inl (due_end (by omega))
  | n + 1, k, h => by
    obtain ⟨d, hk⟩ := fget_of_lt (xs := ps) (k := k) (by omega)
    cases ht : turnB nx d with
    | false => rw [due_no hk (.inl ht)]; exact due_spec hn hd n (k + 1) (by omega)
    | true =>
      rcases chainP_spec hn hk (datB_true (hd d (List.mem_of_getElem? hk))).1 with hc | ⟨⟨c, hc⟩, h2, h3⟩
      · rw [due_no hk (.inr hc)]; exact due_spec hn hd n (k + 1) (by omega)
      · rw [due_yes hk ht (by rw [hc]; simp)]
        rw [hc] at h2 h3 ⊢
        exact .inr ⟨k, c, d, rfl, hk, ht, h2, h3⟩
def dueP (nx : List Int) (ps : List Dat) : List Nat := dueA nx ps ps 0
theorem dueP_spec {nx : List Int} {ps : List Dat} (hn : ps.length ≤ 13) (hd : ∀ d ∈ ps, datB d = true) : dueP nx ps = [] ∨
    ∃ (x : Nat) (c : List Nat) (d : Dat), dueP nx ps = x :: c ∧ ps[x]? = some d ∧ turnB nx d = true ∧ (∀ y ∈ x :: c, y < ps.length) ∧ (x :: c).length ≤ 13 := by
  have := due_spec (nx := nx) hn hd ps.length 0 (by omega)
  simpa [dueP] using this
/-- The texts of parts, one behind the other. -/
def textA (ps : List Dat) : List Nat → ByteArray → ByteArray
  | [], t => t
  | x :: c, t => textA ps c (match ps[x]? with | some d => t ++ d.text | none => t)
theorem text_step {ps : List Dat} {c : List Nat} {i x : Nat} {d : Dat} (h : c[i]? = some x) (hd : ps[x]? = some d) (t : ByteArray) : textA ps (c.drop i) t = textA ps (c.drop (i + 1)) (t ++ d.text) := by
  rw [List.drop_eq_getElem_cons (List.getElem?_eq_some_iff.1 h).1, (List.getElem?_eq_some_iff.1 h).2, textA, hd]
theorem text_end {ps : List Dat} {c : List Nat} {i : Nat} (h : c.length ≤ i) (t : ByteArray) : textA ps (c.drop i) t = t := by rw [List.drop_eq_nil_of_le h]; rfl
theorem text_size {ps : List Dat} (hd : ∀ d ∈ ps, datB d = true) : ∀ (c : List Nat) (t : ByteArray), (textA ps c t).size ≤ t.size + 20 * c.length
  | [], t => Nat.le_add_right _ _
  | x :: c, t => by
    unfold textA
    have h := text_size hd c (match ps[x]? with | some d => t ++ d.text | none => t)
    rw [List.length_cons]
    split at h
    · rename_i d hx
      have h2 := (datB_true (hd d (List.mem_of_getElem? hx))).2.2.2.2
      have h3 : (t ++ d.text).size = t.size + d.text.size := ByteArray.size_append
      omega
    · omega
/-- The parts that are left. -/
def restA (c : List Nat) : List Dat → Nat → List Dat
  | [], _ => []
  | d :: l, k => if c.contains k then restA c l (k + 1) else d :: restA c l (k + 1)
theorem rest_yes {c : List Nat} {ps : List Dat} {k : Nat} {d : Dat} (h : ps[k]? = some d) (hc : c.contains k = true) : restA c (ps.drop k) k = restA c (ps.drop (k + 1)) (k + 1) := by
  rw [List.drop_eq_getElem_cons (List.getElem?_eq_some_iff.1 h).1, (List.getElem?_eq_some_iff.1 h).2, restA, if_pos hc]
theorem rest_no {c : List Nat} {ps : List Dat} {k : Nat} {d : Dat} (h : ps[k]? = some d) (hc : c.contains k = false) : restA c (ps.drop k) k = [d] ++ restA c (ps.drop (k + 1)) (k + 1) := by
  rw [List.drop_eq_getElem_cons (List.getElem?_eq_some_iff.1 h).1, (List.getElem?_eq_some_iff.1 h).2, restA, if_neg (by rw [hc]; decide)]
  rfl
theorem rest_end {c : List Nat} {ps : List Dat} {k : Nat} (h : ps.length ≤ k) : restA c (ps.drop k) k = [] := by rw [List.drop_eq_nil_of_le h]; rfl
theorem rest_le (c : List Nat) : ∀ (l : List Dat) (k : Nat), (restA c l k).length ≤ l.length
  | [], _ => Nat.le_refl _
  | d :: l, k => by
    have := rest_le c l (k + 1)
    unfold restA
    split <;> simp only [List.length_cons] <;> omega
theorem rest_mem (c : List Nat) : ∀ (l : List Dat) (k : Nat), ∀ d ∈ restA c l k, d ∈ l
  | [], _, d, h => h
  | x :: l, k, d, h => by
    unfold restA at h
    split at h
    · exact List.mem_cons_of_mem _ (rest_mem c l (k + 1) d h)
    · rcases List.mem_cons.1 h with rfl | h
      · exact List.mem_cons_self ..
      · exact List.mem_cons_of_mem _ (rest_mem c l (k + 1) d h)
theorem rest_lt {c : List Nat} : ∀ (l : List Dat) (k x : Nat), c.contains x = true → k ≤ x → x < k + l.length → (restA c l k).length < l.length
  | [], k, x, _, h1, h2 => by simp at h2; omega
  | d :: l, k, x, hx, h1, h2 => by
    have hle := rest_le c l (k + 1)
    unfold restA
    by_cases he : k = x
    · subst he
      rw [if_pos hx, List.length_cons]
      omega
    · have := rest_lt l (k + 1) x hx (by omega) (by simp only [List.length_cons] at h2; omega)
      split <;> simp only [List.length_cons] <;> omega
def nextA (nx : List Int) (d : Dat) : List Int := if d.loose then nx else nx.set d.stream.toNat (sadd d.ssn 1)
theorem nextA_len (nx : List Int) (d : Dat) : (nextA nx d).length = nx.length := by
  unfold nextA
  split
  · rfl
  · exact List.length_set
def msgA (ps : List Dat) (d : Dat) (c : List Nat) : Msg := ⟨d.stream, d.ssn, d.loose, textA ps c ⟨#[]⟩⟩
/-- All messages that are due, one after the other. -/
def runA : Nat → List Int → List Dat → List Msg → List Int × List Dat × List Msg
  | 0, nx, ps, said => (nx, ps, said)
  | f + 1, nx, ps, said =>
    match dueP nx ps with
    | [] => (nx, ps, said)
    | x :: c => match ps[x]? with
      | none => (nx, ps, said)
      | some d => runA f (nextA nx d) (restA (x :: c) ps 0) (said ++ [msgA ps d (x :: c)])
theorem run_end {f : Nat} {nx : List Int} {ps : List Dat} {said : List Msg} (h : dueP nx ps = []) : runA (f + 1) nx ps said = (nx, ps, said) := by
  unfold runA
  simp only [h]
theorem run_step {f : Nat} {nx : List Int} {ps : List Dat} {said : List Msg} {x : Nat} {c : List Nat} {d : Dat} (h : dueP nx ps = x :: c) (hd : ps[x]? = some d) : runA (f + 1) nx ps said = runA f (nextA nx d) (restA (x :: c) ps 0) (said ++ [msgA ps d (x :: c)]) := by
  rw [runA]
  simp only [h, hd]
/-- What the rounds keep. -/
structure Fit (nx : List Int) (ps : List Dat) : Prop where
  len : ps.length ≤ 13
  ok : ∀ d ∈ ps, datB d = true ∧ d.stream < nx.length
theorem fit_step {nx : List Int} {ps : List Dat} (h : Fit nx ps) (c : List Nat) (d : Dat) : Fit (nextA nx d) (restA c ps 0) :=
  ⟨Nat.le_trans (rest_le c ps 0) h.len, fun e he => by rw [nextA_len]; exact h.ok e (rest_mem c ps 0 e he)⟩
theorem rest_less {ps : List Dat} {x : Nat} {c : List Nat} {d : Dat} (hd : ps[x]? = some d) : (restA (x :: c) ps 0).length < ps.length :=
  rest_lt ps 0 x (by simp) (Nat.zero_le _) (by have := (List.getElem?_eq_some_iff.1 hd).1; omega)
theorem run_keeps : ∀ (f : Nat) (nx : List Int) (ps : List Dat) (said : List Msg), (runA f nx ps said).1.length = nx.length ∧ (∀ d ∈ (runA f nx ps said).2.1, d ∈ ps) ∧ (runA f nx ps said).2.1.length ≤ ps.length ∧ (runA f nx ps said).2.2.length ≤ said.length + f
  | 0, nx, ps, said => ⟨rfl, fun _ h => h, Nat.le_refl _, Nat.le_refl _⟩
  | f + 1, nx, ps, said => by
    rw [runA]
    split
    · exact ⟨rfl, fun _ h => h, Nat.le_refl _, Nat.le_add_right _ _⟩
    · split
      · exact ⟨rfl, fun _ h => h, Nat.le_refl _, Nat.le_add_right _ _⟩
      · rename_i x c _ _ d _
        obtain ⟨h1, h2, h3, h4⟩ := run_keeps f (nextA nx d) (restA (x :: c) ps 0) (said ++ [msgA ps d (x :: c)])
        refine ⟨h1.trans (nextA_len nx d), fun e he => rest_mem _ _ _ e (h2 e he), Nat.le_trans h3 (rest_le _ _ _), ?_⟩
        rw [List.length_append, List.length_singleton] at h4
        omega
/-- What an assembly returns for a part: the next numbers, the parts, the messages, the code. -/
structure Added where
  zs : List Int
  ps : List Dat
  ms : List Msg
  code : Int
def addA (zs : List Int) (ps : List Dat) (d : Dat) : Added :=
  if asmB zs ps = true ∧ datB d = true ∧ d.stream < zs.length then
    if 0 ≤ atK d.tsn ps 0 then ⟨zs, ps, [], 1⟩
    else if 12 ≤ ps.length then ⟨zs, ps, [], 2⟩
    else ⟨(runA 14 zs (ps ++ [d]) []).1, (runA 14 zs (ps ++ [d]) []).2.1, (runA 14 zs (ps ++ [d]) []).2.2, 0⟩
  else ⟨[], [], [], 3⟩
section
variable {zs : List Int} {ps : List Dat} {d : Dat}
theorem add_bad (h : ¬ (asmB zs ps = true ∧ datB d = true ∧ d.stream < zs.length)) : addA zs ps d = ⟨[], [], [], 3⟩ := if_neg h
theorem add_twice (h : asmB zs ps = true ∧ datB d = true ∧ d.stream < zs.length) (ha : 0 ≤ atK d.tsn ps 0) : addA zs ps d = ⟨zs, ps, [], 1⟩ := by unfold addA; rw [if_pos h, if_pos ha]
theorem add_full (h : asmB zs ps = true ∧ datB d = true ∧ d.stream < zs.length) (ha : ¬ 0 ≤ atK d.tsn ps 0) (hf : 12 ≤ ps.length) : addA zs ps d = ⟨zs, ps, [], 2⟩ := by unfold addA; rw [if_pos h, if_neg ha, if_pos hf]
theorem add_done (h : asmB zs ps = true ∧ datB d = true ∧ d.stream < zs.length) (ha : ¬ 0 ≤ atK d.tsn ps 0) (hf : ¬ 12 ≤ ps.length) {z : List Int} {p : List Dat} {m : List Msg} (hr : runA 14 zs (ps ++ [d]) [] = (z, p, m)) : addA zs ps d = ⟨z, p, m, 0⟩ := by
  unfold addA
  rw [if_pos h, if_neg ha, if_neg hf, hr]
theorem parts_ok {ps : List Dat} {n : Nat} : ∀ (l : List Dat) (k : Nat), partsFrom ps n l k = true → ∀ d ∈ l, datB d = true ∧ d.stream < n
  | [], _, _, d, h => by simp at h
  | x :: l, k, h, d, hd => by
    simp only [partsFrom, Bool.and_eq_true, decide_eq_true_eq] at h
    rcases List.mem_cons.1 hd with rfl | hd
    · exact ⟨h.1.1.1, h.1.1.2⟩
    · exact parts_ok l (k + 1) h.2 d hd
theorem asm_true (h : asmB zs ps = true) : (1 ≤ zs.length ∧ zs.length ≤ 4) ∧ ps.length ≤ 12 ∧ ∀ e ∈ ps, datB e = true ∧ e.stream < zs.length := by
  unfold asmB at h
  simp only [Bool.and_eq_true, decide_eq_true_eq] at h
  exact ⟨h.1.1.1, h.1.1.2, parts_ok ps 0 h.2⟩
theorem fit_start (h : asmB zs ps = true ∧ datB d = true ∧ d.stream < zs.length) : Fit zs (ps ++ [d]) := by
  obtain ⟨h1, h2, h3⟩ := asm_true h.1
  refine ⟨by rw [List.length_append, List.length_singleton]; omega, fun e he => ?_⟩
  rcases List.mem_append.1 he with he | he
  · exact h3 e he
  · rw [List.mem_singleton] at he
    subst he
    exact h.2
theorem add_lens : (addA zs ps d).zs.length ≤ zs.length ∧ (addA zs ps d).ps.length ≤ 13 ∧ (addA zs ps d).ms.length ≤ 14 ∧ (∀ e ∈ (addA zs ps d).ps, e ∈ ps ∨ e = d) := by
  unfold addA
  split
  · rename_i h
    have h1 := (asm_true h.1).2.1
    split
    · exact ⟨Nat.le_refl _, by show ps.length ≤ 13; omega, by show 0 ≤ 14; omega, fun e he => .inl he⟩
    · split
      · exact ⟨Nat.le_refl _, by show ps.length ≤ 13; omega, by show 0 ≤ 14; omega, fun e he => .inl he⟩
      · obtain ⟨k1, k2, k3, k4⟩ := run_keeps 14 zs (ps ++ [d]) []
        refine ⟨Nat.le_of_eq k1, ?_, ?_, fun e he => ?_⟩
        · rw [List.length_append, List.length_singleton] at k3; show (runA 14 zs (ps ++ [d]) []).2.1.length ≤ 13; omega
        · simpa using k4
        · have := k2 e he
          rcases List.mem_append.1 this with h | h
          · exact .inl h
          · exact .inr (List.mem_singleton.1 h)
  · exact ⟨Nat.zero_le _, Nat.zero_le _, Nat.zero_le _, fun e he => by simp at he⟩
end
end Go.Proofs.Ytkhaodbcnnlhaaa
