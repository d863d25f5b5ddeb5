/-
  What a row of arrivals leaves behind, whatever their order, in plain Lean. No condition but those that each theorem bears.
-/
import Derived.Test.YthmbapmakihmaaaSeenA0
namespace Go.Proofs.Ythmbapmakihmaaa
open Go.ChangeShapes Go.WideShapes Go.ChangeAt Go.RowKit
set_option linter.unusedVariables false

theorem sa0_parts {cum : Int} {zs : List Int} {tsn : Int} (h : saCode cum zs tsn = 0) : seenOk cum zs = true ∧ okB tsn = true ∧ 0 < sdiff cum tsn ∧ hasB zs (sdiff cum tsn) = false ∧ sdiff cum tsn ≤ 16 := by
  by_cases h1 : seenOk cum zs = true
  · by_cases h2 : okB tsn = true
    · by_cases h3 : (decide (sdiff cum tsn ≤ 0) || hasB zs (sdiff cum tsn)) = true
      · rw [sa1 h1 h2 h3] at h; cases h
      · have h3 : (decide (sdiff cum tsn ≤ 0) || hasB zs (sdiff cum tsn)) = false := by simpa using h3
        by_cases h4 : 16 < sdiff cum tsn
        · rw [sa2 h1 h2 h3 h4] at h; cases h
        · obtain ⟨ha, hb⟩ := Bool.or_eq_false_iff.1 h3
          have := of_decide_eq_false ha
          exact ⟨h1, h2, by omega, hb, by omega⟩
    · rw [sa3 (.inr (by simpa using h2))] at h; cases h
  · rw [sa3 (.inl (by simpa using h1))] at h; cases h
theorem asc_range2 (p : Nat → Bool) (m : Nat) : ∀ (n s : Nat) (low : Int), (∀ j : Nat, s ≤ j → p j = true → low ≤ (j : Int) - m) → s + n ≤ 17 → asc low (((List.range' s n).filter p).map fun (j : Nat) => (j : Int) - (m : Int)) = true
  | 0, s, low, _, _ => rfl
  | n + 1, s, low, h, hn => by
    rw [List.range'_succ, List.filter_cons]
    by_cases hp : p s = true
    · rw [if_pos hp, List.map_cons]
      unfold asc
      rw [Bool.and_eq_true]
      refine ⟨inB_mk ⟨h s (Nat.le_refl _) hp, by omega⟩, asc_range2 p m n (s + 1) _ (fun j hj _ => by omega) (by omega)⟩
    · rw [if_neg hp]
      exact asc_range2 p m n (s + 1) low (fun j hj hq => h j (by omega) hq) (by omega)
theorem bool_iff {a b : Bool} (h : a = true ↔ b = true) : a = b := by
  cases a <;> cases b <;> simp_all
theorem asc_ext : ∀ {a b : List Int} {l m : Int}, asc l a = true → asc m b = true → (∀ j, j ∈ a ↔ j ∈ b) → a = b
  | [], [], _, _, _, _, _ => rfl
  | [], y :: b, _, _, _, _, h => by have := (h y).2 (by simp); simp at this
  | x :: a, [], _, _, _, _, h => by have := (h x).1 (by simp); simp at this
  | x :: a, y :: b, l, m, ha, hb, h => by
    unfold asc at ha hb
    rw [Bool.and_eq_true] at ha hb
    have e : x = y := by
      rcases List.mem_cons.1 ((h x).1 (by simp)) with e | e
      · exact e
      · rcases List.mem_cons.1 ((h y).2 (by simp)) with e2 | e2
        · exact e2.symm
        · have h1 := asc_mem hb.2 x e
          have h2 := asc_mem ha.2 y e2
          omega
    subst e
    congr 1
    refine asc_ext ha.2 hb.2 fun j => ⟨fun hj => ?_, fun hj => ?_⟩
    · rcases List.mem_cons.1 ((h j).1 (by simp [hj])) with e | e
      · have h1 := asc_mem ha.2 j hj
        omega
      · exact e
    · rcases List.mem_cons.1 ((h j).2 (by simp [hj])) with e | e
      · have h1 := asc_mem hb.2 j hj
        omega
      · exact e
/-- (C, E) is what is left when all numbers of T (counted from cum) have arrived; N of them have been passed. -/
def Canon (T : List Int) (cum C : Int) (E : List Int) (N : Nat) : Prop :=
  N ≤ 64 ∧ C = sadd cum N ∧ hasB T ((N : Int) + 1) = false ∧ (∀ j : Int, 1 ≤ j → j ≤ N → hasB T j = true) ∧ asc 2 E = true ∧ ∀ j : Int, 0 < j → hasB E j = hasB T (j + N)
theorem canon_ok {T E : List Int} {cum C : Int} {N : Nat} (h : Canon T cum C E N) (hc : okB cum = true) : seenOk C E = true := by
  obtain ⟨_, h1, _, _, h2, _⟩ := h
  unfold seenOk
  rw [h2, h1, okB_mk (sadd_range cum N hc)]
  rfl
theorem canon_start {cum : Int} {zs : List Int} (h : seenOk cum zs = true) : Canon zs cum cum zs 0 := by
  obtain ⟨h1, h2⟩ := seenOk_true h
  refine ⟨by omega, ?_, ?_, fun j a b => by omega, h1, fun j _ => by simp⟩
  · rw [sadd_of _ _ h2]
    have := okB_true h2
    omega
  · rw [hasB_not]
    intro hm
    have := asc_mem h1 _ hm
    omega
theorem canon_end {T T' E E' : List Int} {cum C C' : Int} {N N' : Nat} (h : Canon T cum C E N) (h' : Canon T' cum C' E' N') (ht : ∀ j : Int, 0 < j → hasB T j = hasB T' j) : C = C' ∧ E = E' := by
  obtain ⟨a1, a2, a3, a4, a5, a6⟩ := h
  obtain ⟨b1, b2, b3, b4, b5, b6⟩ := h'
  have e : N = N' := by
    rcases Nat.lt_trichotomy N N' with h | h | h
    · have h1 := b4 ((N : Int) + 1) (by omega) (by omega)
      rw [← ht _ (by omega), a3] at h1
      cases h1
    · exact h
    · have h1 := a4 ((N' : Int) + 1) (by omega) (by omega)
      rw [ht _ (by omega), b3] at h1
      cases h1
  subst e
  refine ⟨by rw [a2, b2], asc_ext a5 b5 fun j => ?_⟩
  by_cases hj : 0 < j
  · rw [← hasB_mem, ← hasB_mem, a6 j hj, b6 j hj, ht _ (by omega)]
  · refine ⟨fun hm => ?_, fun hm => ?_⟩
    · have := asc_mem a5 j hm; omega
    · have := asc_mem b5 j hm; omega
theorem sdiff_step {cum : Int} (hc : okB cum = true) (N : Nat) (hN : N ≤ 64) (j : Int) (h0 : -64 ≤ j) (h1 : j ≤ 64) : sdiff (sadd cum N) (sadd cum j) = j - N := by
  obtain ⟨c0, c1⟩ := okB_true hc
  rw [sadd_of _ _ hc, sadd_of _ _ hc]
  unfold sdiff
  split <;> omega
theorem sadd_sdiff {cum x : Int} (hc : okB cum = true) (hx : okB x = true) : sadd cum (sdiff cum x) = x := by
  obtain ⟨c0, c1⟩ := okB_true hc
  obtain ⟨x0, x1⟩ := okB_true hx
  rw [sadd_of _ _ hc]
  unfold sdiff
  split <;> omega
theorem extra_mem {all : List Int} {M : Nat} (h17 : ∀ z ∈ all, z ≤ 16) (j : Int) (hj : 0 < j) : hasB (extraTo all M 17) j = hasB all (j + M) := by
  refine bool_iff ?_
  rw [hasB_mem, hasB_mem]
  unfold extraTo
  rw [List.mem_map]
  constructor
  · rintro ⟨i, hi, e⟩
    have h2 := (List.mem_filter.1 hi).2
    rw [Bool.and_eq_true] at h2
    have h3 := hasB_mem.1 h2.2
    rwa [show j + (M : Int) = (i : Int) from by omega]
  · intro hm
    have h1 := h17 _ hm
    refine ⟨(j + M).toNat, List.mem_filter.2 ⟨List.mem_range.2 (by omega), ?_⟩, by omega⟩
    rw [Bool.and_eq_true]
    refine ⟨decide_eq_true (by omega), hasB_mem.2 ?_⟩
    rwa [show (((j + M).toNat : Nat) : Int) = j + M from by omega]
theorem canon_add {T E : List Int} {cum C x d : Int} {N : Nat} (h : Canon T cum C E N) (hN : N ≤ 32) (hc : okB cum = true) (h0 : saCode C E x = 0) (hx : sdiff C x + N = d) : ∃ N', N ≤ N' ∧ N' ≤ N + 16 ∧ Canon (T ++ [d]) cum (saCum C E x) (saExtra C E x) N' := by
  obtain ⟨a1, a2, a3, a4, a5, a6⟩ := h
  obtain ⟨h1, h2, h3, h4, h5⟩ := sa0_parts h0
  have e1 : saCum C E x = sadd C (moved (saAll C E x)) := by unfold saCum; rw [h0]; rfl
  have e2 : saExtra C E x = extraTo (saAll C E x) (moved (saAll C E x)) 17 := by unfold saExtra; rw [h0]; rfl
  rw [e1, e2]
  have a17 := all17 h1 h5
  have h17 : ∀ z ∈ saAll C E x, z ≤ 16 := by
    intro z hz
    unfold saAll at hz
    rcases List.mem_append.1 hz with hz | hz
    · exact (seenOk_mem h1 z hz).2
    · simp at hz; omega
  have hall : ∀ j : Int, 0 < j → hasB (saAll C E x) j = hasB (T ++ [d]) (j + N) := by
    intro j hj
    unfold saAll
    rw [hasB_append, hasB_append, a6 j hj]
    congr 1
    refine bool_iff ?_
    rw [hasB_mem, hasB_mem]
    simp
    omega
  obtain ⟨ma, _, mc, md⟩ := moveN_spec (saAll C E x) 16 a17 16 0 (by omega) (by omega)
  change hasB (saAll C E x) ((moved (saAll C E x) : Nat) + 1 : Int) = false at ma
  change moved (saAll C E x) ≤ 16 at mc
  change ∀ j : Nat, 0 < j → j ≤ moved (saAll C E x) → hasB (saAll C E x) (j : Int) = true at md
  have hasc : asc 2 (extraTo (saAll C E x) (moved (saAll C E x)) 17) = true := by
    unfold extraTo
    rw [List.range_eq_range']
    refine asc_range2 _ _ 17 0 2 (fun j _ hp => ?_) (by omega)
    rw [Bool.and_eq_true] at hp
    have hj := of_decide_eq_true hp.1
    by_cases hjm : j = moved (saAll C E x) + 1
    · have := hp.2
      rw [hjm, show ((moved (saAll C E x) + 1 : Nat) : Int) = (moved (saAll C E x) : Int) + 1 from by omega, ma] at this
      cases this
    · omega
  have hmem := fun j hj => extra_mem (M := moved (saAll C E x)) h17 j hj
  generalize moved (saAll C E x) = M at ma mc md hasc hmem
  refine ⟨N + M, by omega, by omega, by omega, ?_, ?_, fun j j0 j1 => ?_, hasc, fun j hj => ?_⟩
  · rw [a2, sadd_of _ _ hc, sadd_of _ _ (okB_mk (by omega)), sadd_of _ _ hc]
    omega
  · rw [hall _ (by omega)] at ma
    rw [← ma]
    congr 1
    omega
  · by_cases hjN : j ≤ N
    · rw [hasB_append, a4 j j0 hjN, Bool.true_or]
    · have h6 := md (j - N).toNat (by omega) (by omega)
      rw [hall _ (by omega)] at h6
      rw [← h6]
      congr 1
      omega
  · rw [hmem j hj, hall _ (by omega)]
    congr 1
    omega
/-- What a value tells of the part that lies j steps behind cum. -/
theorem canon_told {T E : List Int} {cum C : Int} {N : Nat} (h : Canon T cum C E N) (hc : okB cum = true) (j : Int) (h0 : -64 ≤ j) (h1 : j ≤ 16) :
    (saCode C E (sadd cum j) = if (decide (j ≤ 0) || hasB T j) then 1 else 0) ∧ seenHas C E (sadd cum j) = (decide (j ≤ 0) || hasB T j) := by
  have hok := canon_ok h hc
  obtain ⟨a1, a2, a3, a4, a5, a6⟩ := h
  have hx := okB_mk (sadd_range cum j hc)
  have hd : sdiff C (sadd cum j) = j - N := by rw [a2]; exact sdiff_step hc N a1 j h0 (by omega)
  have key : (decide (sdiff C (sadd cum j) ≤ 0) || hasB E (sdiff C (sadd cum j))) = (decide (j ≤ 0) || hasB T j) := by
    rw [hd]
    by_cases hj0 : j ≤ 0
    · rw [decide_eq_true (show j - N ≤ 0 by omega), decide_eq_true hj0]; rfl
    · rw [decide_eq_false hj0, Bool.false_or]
      by_cases hjN : j ≤ N
      · rw [decide_eq_true (show j - N ≤ 0 by omega), a4 j (by omega) hjN]; rfl
      · rw [decide_eq_false (show ¬ j - N ≤ 0 by omega), Bool.false_or, a6 _ (by omega)]
        congr 1
        omega
  refine ⟨?_, by rw [seenHas_ok hok hx, key]⟩
  by_cases hb : (decide (j ≤ 0) || hasB T j) = true
  · rw [if_pos hb]
    exact sa1 hok hx (key.trans hb)
  · rw [if_neg hb]
    exact sa0 hok hx (key.trans (by simpa using hb)) (by rw [hd]; omega)
/-- Other parts are not concerned. -/
theorem others_pure {cum : Int} {zs : List Int} {tsn : Int} (h : saCode cum zs tsn = 0) (j : Int) (h0 : -64 ≤ j) (h1 : j ≤ 16) (hne : sadd cum j ≠ tsn) : seenHas (saCum cum zs tsn) (saExtra cum zs tsn) (sadd cum j) = seenHas cum zs (sadd cum j) := by
  obtain ⟨h1', h2, h3, h4, h5⟩ := sa0_parts h
  have hc := (seenOk_true h1').2
  obtain ⟨N, _, _, hN⟩ := canon_add (canon_start h1') (by omega) hc h (d := sdiff cum tsn) (by omega)
  rw [(canon_told hN hc j h0 h1).2, (canon_told (canon_start h1') hc j h0 h1).2, hasB_append]
  have : hasB [sdiff cum tsn] j = false := by
    rw [hasB_not]
    intro hm
    simp at hm
    rw [hm, sadd_sdiff hc h2] at hne
    exact hne rfl
  rw [this, Bool.or_false]
/-- The order of arrival does not matter. -/
theorem order_pure {cum : Int} {zs : List Int} {tsn : Int} (h : saCode cum zs tsn = 0) (k : Int) (k0 : 1 ≤ k) (k1 : k ≤ 16) (x : Int) (hx : x = sadd cum k) :
    (saCode (saCum cum zs tsn) (saExtra cum zs tsn) x = 0 ∨ saCode (saCum cum zs tsn) (saExtra cum zs tsn) x = 1) ∧ (saCode cum zs x = 0 ∨ saCode cum zs x = 1) ∧
    (saCode cum zs x = 1 → saCode (saCum cum zs tsn) (saExtra cum zs tsn) x = 1) ∧
    (saCode (saCum cum zs tsn) (saExtra cum zs tsn) x = 0 → saCode cum zs x = 0 → saCode (saCum cum zs x) (saExtra cum zs x) tsn = 0 ∧
      saCum (saCum cum zs tsn) (saExtra cum zs tsn) x = saCum (saCum cum zs x) (saExtra cum zs x) tsn ∧ saExtra (saCum cum zs tsn) (saExtra cum zs tsn) x = saExtra (saCum cum zs x) (saExtra cum zs x) tsn) := by
  subst hx
  obtain ⟨h1, h2, h3, h4, h5⟩ := sa0_parts h
  have hc := (seenOk_true h1).2
  have hs := canon_start h1
  obtain ⟨N, _, hN2, hN⟩ := canon_add hs (by omega) hc h (d := sdiff cum tsn) (by omega)
  have c1 := (canon_told hN hc k (by omega) k1).1
  have c2 := (canon_told hs hc k (by omega) k1).1
  rw [decide_eq_false (show ¬ k ≤ 0 by omega), Bool.false_or] at c1 c2
  refine ⟨?_, ?_, fun e => ?_, fun e1 e2 => ?_⟩
  · rw [c1]; split
    · exact .inr rfl
    · exact .inl rfl
  · rw [c2]; split
    · exact .inr rfl
    · exact .inl rfl
  · rw [c1, if_pos]
    rw [c2] at e
    split at e
    · rename_i hb; rw [hasB_append, hb, Bool.true_or]
    · cases e
  · have b2 : hasB zs k = false := by
      rw [c2] at e2
      split at e2
      · cases e2
      · rename_i hb; simpa using hb
    have b1 : hasB (zs ++ [sdiff cum tsn]) k = false := by
      rw [c1] at e1
      split at e1
      · cases e1
      · rename_i hb; simpa using hb
    have hkd : k ≠ sdiff cum tsn := by
      rintro rfl
      rw [hasB_append, b2, Bool.false_or] at b1
      have : hasB [sdiff cum tsn] (sdiff cum tsn) = true := by rw [hasB_mem]; simp
      rw [this] at b1
      cases b1
    have d0 : sdiff cum (sadd cum k) = k := by
      have := sdiff_step hc 0 (by omega) k (by omega) (by omega)
      rw [show sadd cum ((0 : Nat) : Int) = cum from by have := hs.2.1; exact this.symm] at this
      omega
    obtain ⟨M, _, hM2, hM⟩ := canon_add hs (by omega) hc e2 (d := k) (by rw [d0]; omega)
    have c3 := (canon_told hM hc (sdiff cum tsn) (by omega) h5).1
    rw [sadd_sdiff hc h2, decide_eq_false (show ¬ sdiff cum tsn ≤ 0 by omega), Bool.false_or, if_neg] at c3
    · obtain ⟨N2, _, _, hN2'⟩ := canon_add hN (by omega) hc e1 (d := k) (by rw [hN.2.1, sdiff_step hc N hN.1 k (by omega) (by omega)]; omega)
      obtain ⟨M2, _, _, hM2'⟩ := canon_add hM (by omega) hc c3 (d := sdiff cum tsn) (by
        have := sdiff_step hc M hM.1 (sdiff cum tsn) (by omega) (by omega)
        rw [sadd_sdiff hc h2] at this
        rw [hM.2.1, this]
        omega)
      obtain ⟨r1, r2⟩ := canon_end hN2' hM2' (fun j hj => by
        simp only [hasB_append, Bool.or_assoc]
        congr 1
        exact Bool.or_comm _ _)
      exact ⟨c3, r1, r2⟩
    · rw [hasB_append, h4, Bool.false_or, hasB_mem]
      simp
      omega
end Go.Proofs.Ythmbapmakihmaaa
