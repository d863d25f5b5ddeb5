/-
  Receipts in plain Lean: when one is valid, which parts it tells, and which receipt tells a list of parts. No condition but those that each theorem bears.
-/
import Derived.Test.YthmbapmakihmaaaSeenQ
namespace Go.Proofs.Ythmbapmakihmaaa
open Go.ChangeShapes Go.WideShapes Go.ChangeAt Go.RowKit
set_option linter.unusedVariables false

def gapB (low a b : Int) : Bool := decide (low ≤ a ∧ a ≤ b ∧ b ≤ 16)
theorem gapB_true {low a b : Int} (h : gapB low a b = true) : low ≤ a ∧ a ≤ b ∧ b ≤ 16 := of_decide_eq_true h
theorem gapB_false {low a b : Int} (h : gapB low a b = false) : ¬(low ≤ a ∧ a ≤ b ∧ b ≤ 16) := of_decide_eq_false h
theorem gapB_mk {low a b : Int} (h : low ≤ a ∧ a ≤ b ∧ b ≤ 16) : gapB low a b = true := decide_eq_true h
def gapsB : Int → List (Int × Int) → Bool
  | _, [] => true
  | low, g :: r => gapB low g.1 g.2 && gapsB (g.2 + 2) r
def sackB (cum : Int) (gs : List (Int × Int)) : Bool := okB cum && decide (gs.length ≤ 8) && gapsB 2 gs
theorem gapsB_drop {gs : List (Int × Int)} {k : Nat} {g : Int × Int} (h : gs[k]? = some g) (low : Int) : gapsB low (gs.drop k) = (gapB low g.1 g.2 && gapsB (g.2 + 2) (gs.drop (k + 1))) := by
  obtain ⟨hk, hz⟩ := List.getElem?_eq_some_iff.1 h
  rw [List.drop_eq_getElem_cons hk, hz]
  rfl
theorem gapsB_end {gs : List (Int × Int)} {k : Nat} (h : gs.length ≤ k) (low : Int) : gapsB low (gs.drop k) = true := by
  rw [List.drop_of_length_le h]; rfl
theorem gapsB_mem : ∀ {gs : List (Int × Int)} {low : Int}, gapsB low gs = true → ∀ g ∈ gs, low ≤ g.1 ∧ g.1 ≤ g.2 ∧ g.2 ≤ 16
  | [], _, _, g, hg => by simp at hg
  | y :: r, low, h, g, hg => by
    unfold gapsB at h
    rw [Bool.and_eq_true] at h
    have hy := gapB_true h.1
    rcases List.mem_cons.1 hg with rfl | hg
    · exact hy
    · have := gapsB_mem h.2 g hg
      omega
theorem gapsB_len : ∀ {gs : List (Int × Int)} {low : Int}, gapsB low gs = true → low ≤ 18 → 2 * (gs.length : Int) ≤ 18 - low
  | [], _, _, h => by simp; omega
  | y :: r, low, h, hl => by
    unfold gapsB at h
    rw [Bool.and_eq_true] at h
    have hy := gapB_true h.1
    have := gapsB_len h.2 (by omega)
    simp only [List.length_cons]
    omega
theorem sackB_true {cum : Int} {gs : List (Int × Int)} (h : sackB cum gs = true) : okB cum = true ∧ gs.length ≤ 8 ∧ gapsB 2 gs = true := by
  unfold sackB at h
  rw [Bool.and_eq_true, Bool.and_eq_true] at h
  exact ⟨h.1.1, of_decide_eq_true h.1.2, h.2⟩
theorem sackB_mk {cum : Int} {gs : List (Int × Int)} (h1 : okB cum = true) (h2 : gapsB 2 gs = true) : sackB cum gs = true := by
  unfold sackB
  have := gapsB_len h2 (by omega)
  rw [h1, h2, decide_eq_true (show gs.length ≤ 8 by omega)]
  rfl

/-! ### The parts that a receipt tells -/
/-- a, a + 1, .., n of them. -/
def runOf (a : Int) : Nat → List Int
  | 0 => []
  | n + 1 => a :: runOf (a + 1) n
theorem runOf_len : ∀ (n : Nat) (a : Int), (runOf a n).length = n
  | 0, _ => rfl
  | n + 1, a => by simp [runOf, runOf_len n]
theorem runOf_snoc : ∀ (n : Nat) (a : Int), runOf a (n + 1) = runOf a n ++ [a + n]
  | 0, a => by simp [runOf]
  | n + 1, a => by
    rw [runOf, runOf_snoc n (a + 1)]
    conv => rhs; rw [runOf]
    rw [List.cons_append]
    congr 3
    omega
theorem runOf_mem : ∀ (n : Nat) (a j : Int), j ∈ runOf a n ↔ a ≤ j ∧ j < a + n
  | 0, a, j => by simp [runOf]
  | n + 1, a, j => by
    rw [runOf, List.mem_cons, runOf_mem n]
    omega
def gapRun (g : Int × Int) : List Int := runOf g.1 (g.2 + 1 - g.1).toNat
def tell (gs : List (Int × Int)) : List Int := gs.flatMap gapRun
theorem tell_snoc (gs : List (Int × Int)) (g : Int × Int) : tell (gs ++ [g]) = tell gs ++ gapRun g := by
  unfold tell
  simp
theorem asc_runs : ∀ (n : Nat) (a low : Int) (r : List Int), low ≤ a → a + n ≤ 17 → asc (a + n) r = true → asc low (runOf a n ++ r) = true
  | 0, a, low, r, h, _, hr => by
    simp only [runOf, List.nil_append]
    cases r with
    | nil => rfl
    | cons z r =>
      unfold asc at hr ⊢
      rw [Bool.and_eq_true] at hr ⊢
      have := inB_true hr.1
      exact ⟨inB_mk (by omega), hr.2⟩
  | n + 1, a, low, r, h, h2, hr => by
    rw [runOf, List.cons_append]
    unfold asc
    rw [Bool.and_eq_true]
    exact ⟨inB_mk (by omega), asc_runs n (a + 1) (a + 1) r (Int.le_refl _) (by omega) (by rw [show a + 1 + (n : Int) = a + ((n + 1 : Nat) : Int) from by omega]; exact hr)⟩
theorem asc_low {low low' : Int} {zs : List Int} (h : asc low zs = true) (hl : low' ≤ low) : asc low' zs = true := by
  cases zs with
  | nil => rfl
  | cons z r =>
    unfold asc at h ⊢
    rw [Bool.and_eq_true] at h ⊢
    have := inB_true h.1
    exact ⟨inB_mk (by omega), h.2⟩
theorem tell_asc : ∀ (gs : List (Int × Int)) (low : Int), gapsB low gs = true → asc low (tell gs) = true
  | [], _, _ => rfl
  | g :: r, low, h => by
    unfold gapsB at h
    rw [Bool.and_eq_true] at h
    have hg := gapB_true h.1
    unfold tell
    rw [List.flatMap_cons]
    refine asc_runs _ _ _ _ hg.1 (by omega) ?_
    have := asc_low (tell_asc r _ h.2) (show g.1 + ((g.2 + 1 - g.1).toNat : Int) ≤ g.2 + 2 by omega)
    exact this
theorem tell_ok {cum : Int} {gs : List (Int × Int)} (h : sackB cum gs = true) : seenOk cum (tell gs) = true := by
  obtain ⟨h1, _, h2⟩ := sackB_true h
  unfold seenOk
  rw [tell_asc gs 2 h2, h1]
  rfl
theorem tell_len {cum : Int} {gs : List (Int × Int)} (h : sackB cum gs = true) : (tell gs).length ≤ 15 := seenOk_len (tell_ok h)

/-! ### The receipt of a list of parts -/
/-- One part more. -/
def gapStep (gs : List (Int × Int)) (n : Int) : List (Int × Int) :=
  match gs.getLast? with
  | none => [(n, n)]
  | some g => if g.2 = n - 1 then gs.dropLast ++ [(g.1, n)] else gs ++ [(n, n)]
def gapsOf (zs : List Int) : List (Int × Int) := zs.foldl gapStep []
theorem gapsOf_snoc (zs : List Int) (n : Int) : gapsOf (zs ++ [n]) = gapStep (gapsOf zs) n := by
  unfold gapsOf
  rw [List.foldl_append]
  rfl
theorem gapStep_nil (n : Int) : gapStep [] n = [(n, n)] := rfl
theorem gapStep_join (gs : List (Int × Int)) (a n : Int) : gapStep (gs ++ [(a, n - 1)]) n = gs ++ [(a, n)] := by
  unfold gapStep
  simp
theorem gapStep_new (gs : List (Int × Int)) (a b n : Int) (h : b ≠ n - 1) : gapStep (gs ++ [(a, b)]) n = gs ++ [(a, b)] ++ [(n, n)] := by
  unfold gapStep
  simp [h]
theorem gapStep_len (gs : List (Int × Int)) (n : Int) : (gapStep gs n).length ≤ gs.length + 1 := by
  unfold gapStep
  split
  · simp
  · split
    · rw [List.length_append, List.length_dropLast]
      simp only [List.length_cons, List.length_nil]
      omega
    · simp
theorem gapsOf_len_aux : ∀ (zs : List Int) (gs : List (Int × Int)), (zs.foldl gapStep gs).length ≤ gs.length + zs.length
  | [], gs => by simp
  | z :: r, gs => by
    have h1 := gapsOf_len_aux r (gapStep gs z)
    have h2 := gapStep_len gs z
    simp only [List.foldl_cons, List.length_cons]
    omega
theorem gapsOf_len (zs : List Int) : (gapsOf zs).length ≤ zs.length := by
  have := gapsOf_len_aux zs []
  simpa [gapsOf] using this
theorem gapsB_snoc : ∀ (gs : List (Int × Int)) (low a b : Int), gapsB low (gs ++ [(a, b)]) = true → ∀ (c d : Int), gapB (b + 2) c d = true → gapsB low (gs ++ [(a, b)] ++ [(c, d)]) = true
  | [], low, a, b, h, c, d, h2 => by
    simp only [List.nil_append, List.cons_append, gapsB, Bool.and_true] at h ⊢
    rw [h, h2]; rfl
  | g :: r, low, a, b, h, c, d, h2 => by
    simp only [List.cons_append, gapsB, Bool.and_eq_true] at h ⊢
    exact ⟨h.1, gapsB_snoc r _ a b h.2 c d h2⟩
theorem gapsB_grow : ∀ (gs : List (Int × Int)) (low a b : Int), gapsB low (gs ++ [(a, b)]) = true → b + 1 ≤ 16 → gapsB low (gs ++ [(a, b + 1)]) = true
  | [], low, a, b, h, h2 => by
    simp only [List.nil_append, gapsB, Bool.and_true] at h ⊢
    have := gapB_true h
    exact gapB_mk (by omega)
  | g :: r, low, a, b, h, h2 => by
    simp only [List.cons_append, gapsB, Bool.and_eq_true] at h ⊢
    exact ⟨h.1, gapsB_grow r _ a b h.2 h2⟩
theorem gapRun_grow (a b : Int) (h : a ≤ b) : gapRun (a, b + 1) = gapRun (a, b) ++ [b + 1] := by
  unfold gapRun
  show runOf a (b + 1 + 1 - a).toNat = runOf a (b + 1 - a).toNat ++ [b + 1]
  rw [show (b + 1 + 1 - a).toNat = (b + 1 - a).toNat + 1 from by omega, runOf_snoc]
  congr 2
  omega
theorem gapRun_one (n : Int) : gapRun (n, n) = [n] := by
  unfold gapRun
  show runOf n (n + 1 - n).toNat = [n]
  rw [show (n + 1 - n).toNat = 1 from by omega]
  rfl
/-- What holds behind each part of an ascending list. -/
theorem gapsOf_inv : ∀ (zs : List Int) (gs : List (Int × Int)) (last : Int), (gs = [] ∧ last = 1 ∨ ∃ gs' a, gs = gs' ++ [(a, last)] ∧ a ≤ last ∧ last ≤ 16) → gapsB 2 gs = true → asc (last + 1) zs = true →
    gapsB 2 (zs.foldl gapStep gs) = true ∧ tell (zs.foldl gapStep gs) = tell gs ++ zs
  | [], gs, last, _, h, _ => ⟨h, by simp⟩
  | z :: r, gs, last, hc, h, hz => by
    unfold asc at hz
    rw [Bool.and_eq_true] at hz
    have hb := inB_true hz.1
    simp only [List.foldl_cons]
    rcases hc with ⟨rfl, rfl⟩ | ⟨gs', a, rfl, ha, hl⟩
    · rw [gapStep_nil]
      have := gapsOf_inv r [(z, z)] z (.inr ⟨[], z, rfl, Int.le_refl _, by omega⟩) (by simp only [gapsB, Bool.and_true]; exact gapB_mk (by omega)) hz.2
      refine ⟨this.1, this.2.trans ?_⟩
      unfold tell
      simp [gapRun_one]
    · by_cases hj : last = z - 1
      · have hz' : z = last + 1 := by omega
        subst hz'
        have e := gapStep_join gs' a (last + 1)
        rw [show last + 1 - 1 = last from by omega] at e
        rw [e]
        have := gapsOf_inv r (gs' ++ [(a, last + 1)]) (last + 1) (.inr ⟨gs', a, rfl, by omega, by omega⟩) (gapsB_grow _ _ _ _ h (by omega)) hz.2
        refine ⟨this.1, this.2.trans ?_⟩
        rw [tell_snoc, tell_snoc, gapRun_grow a last ha]
        simp
      · rw [gapStep_new gs' a last z hj]
        have := gapsOf_inv r (gs' ++ [(a, last)] ++ [(z, z)]) z (.inr ⟨_, z, rfl, Int.le_refl _, by omega⟩) (gapsB_snoc _ _ _ _ h _ _ (gapB_mk (by omega))) hz.2
        refine ⟨this.1, this.2.trans ?_⟩
        rw [tell_snoc _ (z, z), gapRun_one]
        simp
theorem gapsOf_ok {cum : Int} {zs : List Int} (h : seenOk cum zs = true) : sackB cum (gapsOf zs) = true ∧ tell (gapsOf zs) = zs := by
  obtain ⟨h1, h2⟩ := seenOk_true h
  obtain ⟨a, b⟩ := gapsOf_inv zs [] 1 (.inl ⟨rfl, rfl⟩) rfl h1
  exact ⟨sackB_mk h2 a, b⟩
/-- Two valid receipts that tell the same are the same. -/
theorem gaps_ext : ∀ (a b : List (Int × Int)) (l m : Int), gapsB l a = true → gapsB m b = true → tell a = tell b → a = b
  | [], [], _, _, _, _, _ => rfl
  | [], h :: b, _, m, _, hb, e => by
    unfold gapsB at hb
    rw [Bool.and_eq_true] at hb
    have hg := gapB_true hb.1
    have : h.1 ∈ tell (h :: b) := by unfold tell; rw [List.flatMap_cons, List.mem_append]; left; unfold gapRun; rw [runOf_mem]; omega
    rw [← e] at this
    simp [tell] at this
  | g :: a, [], l, _, ha, _, e => by
    unfold gapsB at ha
    rw [Bool.and_eq_true] at ha
    have hg := gapB_true ha.1
    have : g.1 ∈ tell (g :: a) := by unfold tell; rw [List.flatMap_cons, List.mem_append]; left; unfold gapRun; rw [runOf_mem]; omega
    rw [e] at this
    simp [tell] at this
  | g :: a, h :: b, l, m, ha, hb, e => by
    unfold gapsB at ha hb
    rw [Bool.and_eq_true] at ha hb
    have hg := gapB_true ha.1
    have hh := gapB_true hb.1
    have ta := fun j => asc_mem (tell_asc a _ ha.2) j
    have tb := fun j => asc_mem (tell_asc b _ hb.2) j
    have mem : ∀ j, (g.1 ≤ j ∧ j ≤ g.2 ∨ j ∈ tell a) ↔ (h.1 ≤ j ∧ j ≤ h.2 ∨ j ∈ tell b) := by
      intro j
      have e1 : j ∈ tell (g :: a) ↔ (g.1 ≤ j ∧ j ≤ g.2 ∨ j ∈ tell a) := by
        unfold tell; rw [List.flatMap_cons, List.mem_append]; unfold gapRun; rw [runOf_mem]
        constructor
        · rintro (h | h)
          · left; omega
          · exact .inr h
        · rintro (h | h)
          · left; omega
          · exact .inr h
      have e2 : j ∈ tell (h :: b) ↔ (h.1 ≤ j ∧ j ≤ h.2 ∨ j ∈ tell b) := by
        unfold tell; rw [List.flatMap_cons, List.mem_append]; unfold gapRun; rw [runOf_mem]
        constructor
        · rintro (h | h)
          · left; omega
          · exact .inr h
        · rintro (h | h)
          · left; omega
          · exact .inr h
      rw [← e1, ← e2, e]
    have e1 : g.1 = h.1 := by
      rcases (mem g.1).1 (.inl (by omega)) with h1 | h1
      · rcases (mem h.1).2 (.inl (by omega)) with h2 | h2
        · omega
        · have := ta _ h2; omega
      · have := tb _ h1
        rcases (mem h.1).2 (.inl (by omega)) with h2 | h2
        · omega
        · have := ta _ h2; omega
    have e2 : g.2 = h.2 := by
      rcases Int.lt_trichotomy g.2 h.2 with hlt | heq | hlt
      · rcases (mem (g.2 + 1)).2 (.inl (by omega)) with h2 | h2
        · omega
        · have := ta _ h2; omega
      · exact heq
      · rcases (mem (h.2 + 1)).1 (.inl (by omega)) with h2 | h2
        · omega
        · have := tb _ h2; omega
    have e3 : g = h := Prod.ext e1 e2
    subst e3
    congr 1
    refine gaps_ext a b _ _ ha.2 hb.2 ?_
    unfold tell at e ⊢
    rw [List.flatMap_cons, List.flatMap_cons] at e
    exact List.append_cancel_left e
theorem gapsOf_tell {cum : Int} {gs : List (Int × Int)} (h : sackB cum gs = true) : gapsOf (tell gs) = gs := by
  obtain ⟨h1, h2⟩ := gapsOf_ok (tell_ok h)
  exact gaps_ext _ _ 2 2 (sackB_true h1).2.2 (sackB_true h).2.2 h2

/-! ### Whether a receipt has a part -/
def gapHas : List (Int × Int) → Int → Bool
  | [], _ => false
  | g :: r, n => inB n g.1 g.2 || gapHas r n
def sackHasB (cum : Int) (gs : List (Int × Int)) (tsn : Int) : Bool := sackB cum gs && okB tsn && (decide (sdiff cum tsn ≤ 0) || gapHas gs (sdiff cum tsn))
theorem gapHas_drop {gs : List (Int × Int)} {k : Nat} {g : Int × Int} (h : gs[k]? = some g) (n : Int) : gapHas (gs.drop k) n = (inB n g.1 g.2 || gapHas (gs.drop (k + 1)) n) := by
  obtain ⟨hk, hz⟩ := List.getElem?_eq_some_iff.1 h
  rw [List.drop_eq_getElem_cons hk, hz]
  rfl
theorem gapHas_end {gs : List (Int × Int)} {k : Nat} (h : gs.length ≤ k) (n : Int) : gapHas (gs.drop k) n = false := by
  rw [List.drop_of_length_le h]; rfl
theorem gapHas_tell : ∀ (gs : List (Int × Int)) (n : Int), gapHas gs n = hasB (tell gs) n
  | [], n => rfl
  | g :: r, n => by
    unfold gapHas tell
    rw [List.flatMap_cons, hasB_append, gapHas_tell r n]
    congr 1
    refine bool_iff ?_
    rw [hasB_mem]
    unfold gapRun
    rw [runOf_mem]
    constructor
    · intro h
      have := inB_true h
      omega
    · intro h
      exact inB_mk (by omega)
theorem sackHas_seen {cum : Int} {zs : List Int} (h : seenOk cum zs = true) (tsn : Int) : sackHasB cum (gapsOf zs) tsn = seenHas cum zs tsn := by
  obtain ⟨h1, h2⟩ := gapsOf_ok h
  unfold sackHasB seenHas
  rw [h1, h, gapHas_tell, h2]
end Go.Proofs.Ythmbapmakihmaaa
