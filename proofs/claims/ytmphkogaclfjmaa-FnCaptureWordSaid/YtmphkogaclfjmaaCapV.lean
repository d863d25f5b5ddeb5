/-
  When a capture is valid, in the program and in the reference. Conditions: the list can be read.
-/
import Derived.Test.YtmphkogaclfjmaaCapP
import Derived.Test.YtmphkogaclfjmaaNum
import Derived.Test.YtmphkogaclfjmaaFlat
import Derived.Deep.RegionHeld3
namespace Go.Proofs.Ytmphkogaclfjmaa
open Go.ChangeShapes Go.WideShapes Go.ChangeAt Go.RowKit
set_option linter.unusedVariables false

def recC (r : Rec) : List Value := [.int .i64 r.1, .string r.2]
theorem recC_len (r : Rec) : (recC r).length = 2 := rfl
def recs (l : List Rec) : List Value := l.flatMap recC
theorem recs_len (l : List Rec) : (recs l).length = l.length * 2 := flat_len recC 2 recC_len l
theorem recs_one (l : List Rec) : ∀ u ∈ recs l, u.oneCell' = true := flat_one (fun g u hu => by
  unfold recC at hu
  simp at hu
  rcases hu with rfl | rfl <;> rfl)
theorem recs_app (a b : List Rec) : recs (a ++ b) = recs a ++ recs b := by unfold recs; rw [List.flatMap_append]
theorem recs_elem {w : World} {B : Nat} {A : Option Addr} {l : List Rec} (hs : Sl w B A (recs l)) {i : Nat} {r : Rec} (h : l[i]? = some r) :
    ∃ b off, A = some ⟨b, off, none⟩ ∧ b < B ∧ w.cell? ⟨b, off + i * 2, none⟩ = some (.int .i64 r.1) ∧ w.cell? ⟨b, off + i * 2 + 1, none⟩ = some (.string r.2) := by
  obtain ⟨b, off, e, hb, hc⟩ := hs.elem recC_len (by omega) h
  exact ⟨b, off, e, hb, hc 0 _ rfl, hc 1 _ rfl⟩
/-- Texts that a string may be. -/
def Txts (l : List Rec) : Prop := ∀ r ∈ l, r.2.size ≤ 9223372036854775807

set_option maxHeartbeats 800000 in
theorem icap_valid (A : Option Addr) (n c : Nat) (l : List Rec) (w : World) (hs : Sl w w.heap.size A (recs l)) (hn : l.length = n) (hm : n ≤ 9223372036854775807) (ht : Txts l) :
    Calls Try.prog 21 #[.slice A n c] w fun e w' => e = .returned (.bool (capB l)) ∧ Below w.heap.size w w' := by
  have HS := Lib.hid hs; have HN := Lib.hid hn; have HT := Lib.hid ht; clear hs hn ht
  by_cases h8 : 60 < n
  · go_enter Try.func21, Try.ntmps21
    go_wp2
    go_ret
    exact ⟨ret_bool (by unfold capB; rw [HN.out, decide_eq_false (show ¬ n ≤ 60 by omega)]; rfl), Below.refl _ _⟩
  · have HE := Lib.hid (by unfold capB; rw [HN.out, decide_eq_true (show n ≤ 60 by omega)]; rfl : capB l = timesB 0 l)
    go_enter Try.func21, Try.ntmps21
    go_wp2
    go_loopw [3, 11] (fun p i wr => ∃ (k : Nat) (L : Int), k ≤ n ∧ 0 ≤ L ∧ L ≤ 4294967295 ∧ i = .int .i64 k ∧ p = .int .i64 L ∧ Hid (timesB 0 l = timesB L (l.drop k)) ∧ Below w.heap.size w wr) (fun _ i _ => n - (intOf i).toNat)
    case atStart => exact ⟨0, 0, by omega, by omega, by omega, rfl, rfl, Lib.hid rfl, Below.refl _ _⟩
    case round =>
      obtain ⟨k, L, hk, hL1, hL2, rfl, rfl, ha, hb⟩ := hrel
      have B := Lib.hid hb
      clear hb
      by_cases hlt : k < n
      · obtain ⟨r, hr⟩ := fget_of_lt (xs := l) (k := k) (by rw [HN.out]; exact hlt)
        obtain ⟨b, off, rfl, hbl, e1, e2⟩ := recs_elem ((HS.out.below B.out (Nat.le_refl _)).more B.out.size) hr
        have hts := HT.out r (List.mem_of_getElem? hr)
        have HA := Lib.hid (ha.out.trans (timesB_drop hr L))
        obtain ⟨t, s⟩ := r
        change s.size ≤ 9223372036854775807 at hts
        clear ha hr
        by_cases hin : recB L (t, s) = true
        · obtain ⟨i1, i2, i3⟩ := recB_true hin
          have HA2 := Lib.hid (HA.out.trans (by rw [hin]; rfl) : timesB 0 l = timesB t (l.drop (k + 1)))
          clear HA hin
          change L ≤ t at i1
          change t ≤ 4294967295 at i2
          change s.size ≤ 120 at i3
          go_wp2
          go_roundw
          case rel => exact ⟨k + 1, t, by omega, by omega, by omega, by go_num, rfl, HA2, B.out.alloc B.out.size _⟩
          case measure => simp [intOf]; omega
        · have hin : recB L (t, s) = false := by simpa using hin
          have hno := recB_false hin
          change ¬ (L ≤ t ∧ t ≤ 4294967295 ∧ s.size ≤ 120) at hno
          have HA2 := Lib.hid (HA.out.trans (by rw [hin]; rfl) : timesB 0 l = false)
          clear HA hin
          by_cases h1 : t < L
          · clear hno
            go_wp2
            go_ret
            exact ⟨ret_bool (HE.out.trans HA2.out).symm, B.out.alloc B.out.size _⟩
          · by_cases h2 : 4294967295 < t
            · clear hno
              go_wp2
              go_ret
              exact ⟨ret_bool (HE.out.trans HA2.out).symm, B.out.alloc B.out.size _⟩
            · have h3 : 120 < s.size := by omega
              clear hno
              go_wp2
              go_ret
              exact ⟨ret_bool (HE.out.trans HA2.out).symm, B.out.alloc B.out.size _⟩
      · have HA2 := Lib.hid (ha.out.trans (timesB_end (by rw [HN.out]; omega) L))
        clear ha
        go_wp2
        go_ret
        exact ⟨ret_bool (HE.out.trans HA2.out).symm, B.out⟩
theorem l14rec (L t : Int) (s : ByteArray) (hs : s.size ≤ 9223372036854775807) (w : World) : Calls Try.prog 37 #[.agg #[.int .i64 t, .string s], .int .i64 L] w fun e w' => e = .returned (.bool (recB L (t, s))) ∧ Below w.heap.size w w' := by
  by_cases h1 : inB t L 4294967295 = true
  · obtain ⟨i1, i2⟩ := inB_true h1
    by_cases h2 : s.size ≤ 120
    all_goals
      go_enter Try.func37, Try.ntmps37
      go_wp2_with (go_at_call 50; refine (in_any _ _ _ _).mono ?_; rintro e w' ⟨rfl, rfl⟩)
      go_ret
      exact ⟨ret_bool (by first | (simp [recB, i1, i2, h2]; done) | (simp [recB, i1, i2]; omega)), by go_grown⟩
  · have h1 : inB t L 4294967295 = false := by simpa using h1
    have hno := inB_false h1
    go_enter Try.func37, Try.ntmps37
    go_wp2_with (go_at_call 50; refine (in_any _ _ _ _).mono ?_; rintro e w' ⟨rfl, rfl⟩)
    go_ret
    exact ⟨ret_bool (by unfold recB; simp; omega), by go_grown⟩
set_option maxHeartbeats 800000 in
theorem scap_valid (A : Option Addr) (n c : Nat) (l : List Rec) (w : World) (hs : Sl w w.heap.size A (recs l)) (hn : l.length = n) (hm : n ≤ 9223372036854775807) (ht : Txts l) :
    Calls Try.prog 19 #[.slice A n c] w fun e w' => e = .returned (.bool (capB l)) ∧ Below w.heap.size w w' := by
  have HS := Lib.hid hs; have HN := Lib.hid hn; have HT := Lib.hid ht; clear hs hn ht
  go_enter Try.func19, Try.ntmps19
  go_wp2
  go_loopw [3, 4] (fun p i wr => ∃ (k : Nat) (L : Int), k ≤ n ∧ 0 ≤ L ∧ L ≤ 4294967295 ∧ i = .int .i64 k ∧ p = .int .i64 L ∧ Hid (timesB 0 l = timesB L (l.drop k)) ∧ Below w.heap.size w wr) (fun _ i _ => n - (intOf i).toNat)
  case atStart => exact ⟨0, 0, by omega, by omega, by omega, rfl, rfl, Lib.hid rfl, Below.refl _ _⟩
  case round =>
    obtain ⟨k, L, hk, hL1, hL2, rfl, rfl, ha, hb⟩ := hrel
    have B := Lib.hid hb
    clear hb
    by_cases hlt : k < n
    · obtain ⟨r, hr⟩ := fget_of_lt (xs := l) (k := k) (by rw [HN.out]; exact hlt)
      obtain ⟨b, off, rfl, hbl, e1, e2⟩ := recs_elem ((HS.out.below B.out (Nat.le_refl _)).more B.out.size) hr
      have hts := HT.out r (List.mem_of_getElem? hr)
      have HA := Lib.hid (ha.out.trans (timesB_drop hr L))
      obtain ⟨t, s⟩ := r
      change s.size ≤ 9223372036854775807 at hts
      clear ha hr
      by_cases hin : recB L (t, s) = true
      · obtain ⟨i1, i2, i3⟩ := recB_true hin
        have HA2 := Lib.hid (HA.out.trans (by rw [hin]; rfl) : timesB 0 l = timesB t (l.drop (k + 1)))
        clear HA
        change L ≤ t at i1
        change t ≤ 4294967295 at i2
        change s.size ≤ 120 at i3
        go_wp2_with (go_at_call 37; refine (l14rec _ _ _ hts _).mono ?_; rintro e w2 ⟨rfl, b2⟩; have t1 := ((bcell b2).1 b (off + k * 2) hbl).trans e1; have B2 := Lib.hid (bstep B.out b2 B.out.size); clear b2)
        go_roundw
        case rel => exact ⟨k + 1, t, by omega, by omega, by omega, by go_num, rfl, HA2, B2.out⟩
        case measure => simp [intOf]; omega
      · have hin : recB L (t, s) = false := by simpa using hin
        have HA2 := Lib.hid (HA.out.trans (by rw [hin]; rfl) : timesB 0 l = false)
        clear HA
        go_wp2_with (go_at_call 37; refine (l14rec _ _ _ hts _).mono ?_; rintro e w2 ⟨rfl, b2⟩; have B2 := Lib.hid (bstep B.out b2 B.out.size); clear b2)
        go_ret
        exact ⟨ret_bool (by unfold capB; rw [HA2.out, Bool.and_false]), B2.out⟩
    · have HA2 := Lib.hid (ha.out.trans (timesB_end (by rw [HN.out]; omega) L))
      clear ha
      by_cases h8 : n ≤ 60
      all_goals
        go_wp2
        go_ret
        exact ⟨ret_bool (by unfold capB; rw [HA2.out, HN.out]; simp; omega), B.out⟩
end Go.Proofs.Ytmphkogaclfjmaa
