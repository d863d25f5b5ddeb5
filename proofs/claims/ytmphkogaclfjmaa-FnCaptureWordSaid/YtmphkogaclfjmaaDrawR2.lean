/-
  What DrawCaptureValid and DrawCapturePut return; what is left of a capture. Condition: the code is a slice of bytes.
-/
import Derived.Test.YtmphkogaclfjmaaDrawR
namespace Go.Proofs.Ytmphkogaclfjmaa
open Go.ChangeShapes Go.WideShapes Go.ChangeAt Go.RowKit
set_option linter.unusedVariables false

/-- A capture that was drawn. -/
def RecsDr (w : World) (e : Ending) (w' : World) : Prop :=
  ∃ (A : Option Addr) (n c : Nat) (l : List Rec), e = .returned (.slice A n c) ∧ l.length = n ∧ n ≤ 62 ∧ RecsOk l ∧ Own w' w.heap.size 33 2 A n c (recs l) ∧ Below w.heap.size w w'
theorem draw_cap_valid (A0 : Option Addr) (n0 c0 : Nat) (w : World) (h : Bts w A0 n0 c0) : Calls Try.prog 23 #[.slice A0 n0 c0] w (RecsDr w) := by
  have H := Lib.hid h; clear h
  go_enter Try.func23, Try.ntmps23
  go_wp2_with fail
  refine (opened _ _ _ _ H.out).mono ?_
  rintro e w1 ⟨rfl, r1, b1, s1⟩
  have B1 := Lib.hid b1
  have h1 := r1.lt
  clear b1 s1
  go_wp2_with fail
  refine (recs_drawn _ _ _ r1 (by omega)).mono ?_
  rintro e w2 ⟨A, n, c, l, rfl, hl, hn, ho, o2, r2, g2⟩
  have HL := Lib.hid hl
  have O2 := Lib.hid o2
  have B2 := Lib.hid (B1.out.grown g2 B1.out.size (fun k hk => by injection hk; omega))
  clear hl o2 g2 r2
  go_wp2
  go_ret
  exact ⟨_, n, c, l, rfl, HL.out, hn, ho, O2.out.lower B1.out.size, B2.out⟩
theorem draw_cap_put (A0 : Option Addr) (n0 c0 : Nat) (w : World) (h : Bts w A0 n0 c0) : Calls Try.prog 32 #[.slice A0 n0 c0] w (RecsDr w) := by
  have H := Lib.hid h; clear h
  go_enter Try.func32, Try.ntmps32
  go_wp2_with fail
  refine (opened _ _ _ _ H.out).mono ?_
  rintro e w1 ⟨rfl, r1, b1, s1⟩
  have B1 := Lib.hid b1
  have h1 := r1.lt
  clear b1 s1
  go_wp2_with fail
  refine (recs_drawn _ _ _ r1 (by omega)).mono ?_
  rintro e w2 ⟨A, n, c, l, rfl, hl, hn, ho, o2, r2, g2⟩
  have HL := Lib.hid hl
  have O2 := Lib.hid o2
  have B2 := Lib.hid (B1.out.grown g2 B1.out.size (fun k hk => by injection hk; omega))
  clear hl o2 g2 r2
  go_wp2
  go_ret
  exact ⟨_, n, c, l, rfl, HL.out, hn, ho, O2.out.lower B1.out.size, B2.out⟩
theorem icap_valid_eq {l : List Rec} {v : Bool} (hv : capB l = v) (A : Option Addr) (n c : Nat) (w : World) (hs : Sl w w.heap.size A (recs l)) (hn : l.length = n) (hm : n ≤ 9223372036854775807) (ht : Txts l) :
    Calls Try.prog 21 #[.slice A n c] w fun e w' => e = .returned (.bool v) ∧ Below w.heap.size w w' :=
  (icap_valid A n c l w hs hn hm ht).mono fun _ _ ⟨he, hb⟩ => ⟨by rw [he, hv], hb⟩
theorem scap_valid_eq {l : List Rec} {v : Bool} (hv : capB l = v) (A : Option Addr) (n c : Nat) (w : World) (hs : Sl w w.heap.size A (recs l)) (hn : l.length = n) (hm : n ≤ 9223372036854775807) (ht : Txts l) :
    Calls Try.prog 19 #[.slice A n c] w fun e w' => e = .returned (.bool v) ∧ Below w.heap.size w w' :=
  (scap_valid A n c l w hs hn hm ht).mono fun _ _ ⟨he, hb⟩ => ⟨by rw [he, hv], hb⟩
theorem Own.cap_le {w : World} {base : Nat} {e : TypeId} {size g n c : Nat} {xs : List Value} (h : Own w base e size (some ⟨g, 0, none⟩) n c xs) : n ≤ c ∧ c ≤ maxLen := by
  rcases h.2 with ⟨hv, _⟩ | ⟨g', cap, cur, hv, _, _, hnc, hm, _⟩
  · injection hv with hA; cases hA
  · injection hv with _ _ hc
    subst hc
    exact ⟨hnc, hm⟩
/-! ### Plain -/
theorem timesB_less : ∀ (a : List Rec) (z : Rec) (b : List Rec) (low : Int), timesB low (a ++ z :: b) = true → timesB low (a ++ b) = true
  | [], z, b, low, h => by
    simp only [List.nil_append, timesB, Bool.and_eq_true] at h ⊢
    have := recB_true h.1
    exact timesB_low h.2 this.1
  | y :: a, z, b, low, h => by
    simp only [List.cons_append, timesB, Bool.and_eq_true] at h ⊢
    exact ⟨h.1, timesB_less a z b _ h.2⟩
theorem part_cap {l : List Rec} (h : capB l = true) (k : Nat) (hk : k < l.length) : capB (l.take k ++ l.drop (k + 1)) = true := by
  obtain ⟨h1, h2⟩ := capB_true h
  have e : l = l.take k ++ l[k] :: l.drop (k + 1) := by rw [← List.drop_eq_getElem_cons hk, List.take_append_drop]
  unfold capB
  rw [e] at h2
  rw [timesB_less _ _ _ _ h2, Bool.and_true]
  refine decide_eq_true ?_
  rw [List.length_append, List.length_take, List.length_drop]
  omega
def lastT : Int → List Rec → Int
  | low, [] => low
  | _, r :: l => lastT r.1 l
theorem timesB_snoc : ∀ (l : List Rec) (low : Int) (r : Rec), timesB low (l ++ [r]) = (timesB low l && recB (lastT low l) r)
  | [], low, r => by simp [timesB, lastT]
  | y :: l, low, r => by simp only [List.cons_append, timesB, lastT, timesB_snoc l, Bool.and_assoc]
theorem lastT_last : ∀ (l : List Rec) (low : Int) (r : Rec), l[l.length - 1]? = some r → lastT low l = r.1
  | [], _, _, h => by simp at h
  | [y], low, r, h => by simp at h; subst h; rfl
  | y :: z :: l, low, r, h => by
    show lastT y.1 (z :: l) = r.1
    refine lastT_last (z :: l) y.1 r ?_
    simpa using h
theorem lastT_range : ∀ (l : List Rec) (low : Int), timesB low l = true → low ≤ 4294967295 → low ≤ lastT low l ∧ lastT low l ≤ 4294967295
  | [], low, _, h => ⟨Int.le_refl _, h⟩
  | y :: l, low, h, h2 => by
    simp only [timesB, Bool.and_eq_true] at h
    have h3 := recB_true h.1
    have := lastT_range l y.1 h.2 h3.2.1
    show low ≤ lastT y.1 l ∧ lastT y.1 l ≤ _
    omega
theorem times_pure {l : List Rec} (h : capB l = true) : capB (l ++ [(lastT 0 l, ⟨#[]⟩)]) = decide (l.length < 60) ∧ capB (l ++ [(lastT 0 l - 1, ⟨#[]⟩)]) = false ∧ 0 ≤ lastT 0 l ∧ lastT 0 l ≤ 4294967295 := by
  obtain ⟨h1, h2⟩ := capB_true h
  obtain ⟨r1, r2⟩ := lastT_range l 0 h2 (by omega)
  refine ⟨?_, ?_, r1, r2⟩
  · unfold capB
    have hr : recB (lastT 0 l) (lastT 0 l, ⟨#[]⟩) = true := recB_mk ⟨Int.le_refl _, r2, by show 0 ≤ 120; omega⟩
    rw [timesB_snoc, h2, hr, List.length_append]
    simp
    omega
  · unfold capB
    have hr : recB (lastT 0 l) (lastT 0 l - 1, ⟨#[]⟩) = false := recB_no (fun hh => by have := hh.1; change lastT 0 l ≤ lastT 0 l - 1 at this; omega)
    rw [timesB_snoc, hr]
    simp
end Go.Proofs.Ytmphkogaclfjmaa
