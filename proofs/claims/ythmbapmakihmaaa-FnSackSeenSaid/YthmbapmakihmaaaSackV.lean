/-
  When a receipt is valid, in the program and in the reference. Conditions: those that each theorem bears.
-/
import Derived.Test.YthmbapmakihmaaaSackP
import Derived.Test.YthmbapmakihmaaaFlat
namespace Go.Proofs.Ythmbapmakihmaaa
open Go.ChangeShapes Go.WideShapes Go.ChangeAt Go.RowKit
set_option linter.unusedVariables false

def gapC (g : Int × Int) : List Value := [.int .i64 g.1, .int .i64 g.2]
theorem gapC_len (g : Int × Int) : (gapC g).length = 2 := rfl
def gaps (gs : List (Int × Int)) : List Value := gs.flatMap gapC
theorem gaps_len (gs : List (Int × Int)) : (gaps gs).length = gs.length * 2 := flat_len gapC 2 gapC_len gs
theorem gaps_one (gs : List (Int × Int)) : ∀ u ∈ gaps gs, u.oneCell' = true := flat_one (fun g u hu => by
  unfold gapC at hu
  simp at hu
  rcases hu with rfl | rfl <;> rfl)
theorem gaps_elem {w : World} {B : Nat} {A : Option Addr} {gs : List (Int × Int)} (hs : Sl w B A (gaps gs)) {i : Nat} {g : Int × Int} (h : gs[i]? = some g) :
    ∃ b off, A = some ⟨b, off, none⟩ ∧ b < B ∧ w.cell? ⟨b, off + i * 2, none⟩ = some (.int .i64 g.1) ∧ w.cell? ⟨b, off + i * 2 + 1, none⟩ = some (.int .i64 g.2) := by
  obtain ⟨b, off, e, hb, hc⟩ := hs.elem gapC_len (by omega) h
  exact ⟨b, off, e, hb, hc 0 _ rfl, hc 1 _ rfl⟩

set_option maxHeartbeats 800000 in
theorem isack_ok (cum : Int) (A : Option Addr) (n c : Nat) (gs : List (Int × Int)) (w : World) (hs : Sl w w.heap.size A (gaps gs)) (hn : gs.length = n) (hm : n ≤ 9223372036854775807) :
    Calls Try.prog 12 #[.agg #[.int .i64 cum, .slice A n c]] w fun e w' => e = .returned (.bool (sackB cum gs)) ∧ Below w.heap.size w w' := by
  have HS := Lib.hid hs; have HN := Lib.hid hn; clear hs hn
  by_cases hc : okB cum = true
  · by_cases h8 : 8 < n
    · go_enter Try.func12, Try.ntmps12
      go_wp2_with (go_at_call 20; refine (ok_any _ _).mono ?_; rintro e w' ⟨rfl, rfl⟩)
      go_ret
      exact ⟨ret_bool (by unfold sackB; rw [HN.out, decide_eq_false (show ¬ n ≤ 8 by omega), Bool.and_false]; rfl), by go_grown⟩
    · go_enter Try.func12, Try.ntmps12
      go_wp2_with (go_at_call 20; refine (ok_any _ _).mono ?_; rintro e w' ⟨rfl, rfl⟩)
      have HE := Lib.hid (by unfold sackB; rw [hc, HN.out, decide_eq_true (show n ≤ 8 by omega)]; rfl : sackB cum gs = gapsB 2 gs)
      have HC := Lib.hid hc
      clear hc
      go_loopw [3, 19] (fun l i wr => ∃ (k : Nat) (L : Int), k ≤ n ∧ 2 ≤ L ∧ L ≤ 18 ∧ i = .int .i64 k ∧ l = .int .i64 L ∧ Hid (gapsB 2 gs = gapsB L (gs.drop k)) ∧ Blk wr w.heap.size #[.int .i64 cum, .slice A n c] 25 ∧ Below w.heap.size w wr) (fun _ i _ => n - (intOf i).toNat)
      case atStart => exact ⟨0, 2, by omega, by omega, by omega, rfl, rfl, Lib.hid rfl, Blk.new _ _ _, (Below.refl _ _).alloc (Nat.le_refl _) _⟩
      case round =>
        obtain ⟨k, L, hk, hL1, hL2, rfl, rfl, ha, hq, hb⟩ := hrel
        have B := Lib.hid hb
        have Q := Lib.hid hq
        clear hb hq
        by_cases hlt : k < n
        · obtain ⟨g, hg⟩ := fget_of_lt (xs := gs) (k := k) (by rw [HN.out]; exact hlt)
          obtain ⟨b, off, rfl, hbl, e1, e2⟩ := gaps_elem ((HS.out.below B.out (Nat.le_refl _)).more B.out.size) hg
          obtain ⟨g1, g2⟩ := g
          have HA := Lib.hid (ha.out.trans (gapsB_drop hg L))
          clear ha hg
          by_cases hin : gapB L g1 g2 = true
          · obtain ⟨i1, i2, i3⟩ := gapB_true hin
            have HA2 := Lib.hid (HA.out.trans (by rw [hin]; rfl) : gapsB 2 gs = gapsB (g2 + 2) (gs.drop (k + 1)))
            clear HA hin
            go_wp2
            go_roundw
            case rel => exact ⟨k + 1, g2 + 2, by omega, by omega, by omega, by go_num, rfl, HA2, Q.out.alloc _, B.out.alloc B.out.size _⟩
            case measure => simp [intOf]; omega
          · have hin : gapB L g1 g2 = false := by simpa using hin
            have hno := gapB_false hin
            have HA2 := Lib.hid (HA.out.trans (by rw [hin]; rfl) : gapsB 2 gs = false)
            clear HA hin
            by_cases h1 : g1 < L
            · go_wp2
              go_ret
              exact ⟨ret_bool (HE.out.trans HA2.out).symm, B.out.alloc B.out.size _⟩
            · by_cases h2 : g2 < g1
              · go_wp2
                go_ret
                exact ⟨ret_bool (HE.out.trans HA2.out).symm, B.out.alloc B.out.size _⟩
              · have h3 : 16 < g2 := by omega
                clear hno
                go_wp2
                go_ret
                exact ⟨ret_bool (HE.out.trans HA2.out).symm, B.out.alloc B.out.size _⟩
        · have HA2 := Lib.hid (ha.out.trans (gapsB_end (by rw [HN.out]; omega) L))
          clear ha
          go_wp2
          go_ret
          exact ⟨ret_bool (HE.out.trans HA2.out).symm, B.out⟩
  · have hc : okB cum = false := by simpa using hc
    go_enter Try.func12, Try.ntmps12
    go_wp2_with (go_at_call 20; refine (ok_any _ _).mono ?_; rintro e w' ⟨rfl, rfl⟩)
    go_ret
    exact ⟨ret_bool (by unfold sackB; rw [hc]; rfl), by go_grown⟩
set_option maxHeartbeats 800000 in
theorem ssack_ok (cum : Int) (A : Option Addr) (n c : Nat) (gs : List (Int × Int)) (w : World) (hs : Sl w w.heap.size A (gaps gs)) (hn : gs.length = n) (hm : n ≤ 9223372036854775807) :
    Calls Try.prog 13 #[.agg #[.int .i64 cum, .slice A n c]] w fun e w' => e = .returned (.bool (sackB cum gs)) ∧ Below w.heap.size w w' := by
  have HS := Lib.hid hs; have HN := Lib.hid hn; clear hs hn
  go_enter Try.func13, Try.ntmps13
  go_wp2
  go_loopw [3, 4] (fun l i wr => ∃ (k : Nat) (L : Int), k ≤ n ∧ 0 ≤ L ∧ L ≤ 16 ∧ i = .int .i64 k ∧ l = .int .i64 L ∧ Hid (gapsB 2 gs = gapsB (L + 2) (gs.drop k)) ∧ Blk wr w.heap.size #[.int .i64 cum, .slice A n c] 25 ∧ Below w.heap.size w wr) (fun _ i _ => n - (intOf i).toNat)
  case atStart => exact ⟨0, 0, by omega, by omega, by omega, rfl, rfl, Lib.hid rfl, Blk.new _ _ _, (Below.refl _ _).alloc (Nat.le_refl _) _⟩
  case round =>
    obtain ⟨k, L, hk, hL1, hL2, rfl, rfl, ha, hq, hb⟩ := hrel
    have B := Lib.hid hb
    have Q := Lib.hid hq
    have x0 : wr.cell? ⟨w.heap.size, 0, none⟩ = some (.int .i64 cum) := hq.get 0 rfl
    have x1 : wr.cell? ⟨w.heap.size, 1, none⟩ = some (.slice A n c) := hq.get 1 rfl
    clear hb hq
    by_cases hlt : k < n
    · obtain ⟨g, hg⟩ := fget_of_lt (xs := gs) (k := k) (by rw [HN.out]; exact hlt)
      obtain ⟨b, off, rfl, hbl, e1, e2⟩ := gaps_elem ((HS.out.below B.out (Nat.le_refl _)).more B.out.size) hg
      obtain ⟨g1, g2⟩ := g
      have HA := Lib.hid (ha.out.trans (gapsB_drop hg (L + 2)))
      clear ha hg
      by_cases hin : gapB (L + 2) g1 g2 = true
      · obtain ⟨i1, i2, i3⟩ := gapB_true hin
        have HA2 := Lib.hid (HA.out.trans (by rw [hin]; rfl) : gapsB 2 gs = gapsB (g2 + 2) (gs.drop (k + 1)))
        clear HA hin
        go_wp2
        go_roundw
        case rel => exact ⟨k + 1, g2, by omega, by omega, by omega, by go_num, rfl, HA2, Q.out.alloc _, B.out.alloc B.out.size _⟩
        case measure => simp [intOf]; omega
      · have hin : gapB (L + 2) g1 g2 = false := by simpa using hin
        have hno := gapB_false hin
        have HA2 := Lib.hid (HA.out.trans (by rw [hin]; rfl) : gapsB 2 gs = false)
        clear HA hin
        by_cases h1 : g1 < L + 2
        · go_wp2
          go_ret
          exact ⟨ret_bool (by unfold sackB; rw [HA2.out, Bool.and_false]), B.out.alloc B.out.size _⟩
        · by_cases h2 : g2 < g1
          · go_wp2
            go_ret
            exact ⟨ret_bool (by unfold sackB; rw [HA2.out, Bool.and_false]), B.out.alloc B.out.size _⟩
          · have h3 : 16 < g2 := by omega
            clear hno
            go_wp2
            go_ret
            exact ⟨ret_bool (by unfold sackB; rw [HA2.out, Bool.and_false]), B.out.alloc B.out.size _⟩
    · have HA2 := Lib.hid (ha.out.trans (gapsB_end (by rw [HN.out]; omega) (L + 2)))
      clear ha
      by_cases hc : okB cum = true
      · by_cases h8 : n ≤ 8
        all_goals
          go_wp2_with (go_at_call 21; refine (l3ok_any _ _).mono ?_; rintro e w' ⟨rfl, rfl⟩)
          go_ret
          exact ⟨ret_bool (by unfold sackB; rw [HA2.out, HN.out, hc]; simp; omega), B.out⟩
      · have hc : okB cum = false := by simpa using hc
        go_wp2_with (go_at_call 21; refine (l3ok_any _ _).mono ?_; rintro e w' ⟨rfl, rfl⟩)
        go_ret
        exact ⟨ret_bool (by unfold sackB; rw [hc]; rfl), B.out⟩
end Go.Proofs.Ythmbapmakihmaaa
