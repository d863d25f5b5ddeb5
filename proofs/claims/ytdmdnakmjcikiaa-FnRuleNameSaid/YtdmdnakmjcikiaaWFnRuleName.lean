/-
  The walk of 'FnRuleName'. Condition: the code is a slice of bytes.
-/
import Derived.Test.YtdmdnakmjcikiaaRule
import Derived.Test.YtdmdnakmjcikiaaDraw
namespace Go.Proofs.Ytdmdnakmjcikiaa
open Go.ChangeShapes Go.WideShapes Go.ChangeAt Go.RowKit
set_option linter.unusedVariables false
theorem walkFnRuleName (A : Option Addr) (n c : Nat) (w : World) (h : Bts w A n c) :
    Calls Try.prog 4 #[.slice A n c] w fun e w' => e = .returned (.bool true) ∧ Below w.heap.size w w' := by
  have hle := h.le
  have H := Lib.hid h; clear h
  by_cases hn : 1048576 < n
  · go_enter Try.func4, Try.ntmps4
    go_wp2
    go_ret
    exact ⟨rfl, Below.refl _ _⟩
  · go_enter Try.func4, Try.ntmps4
    go_wp2_with fail
    refine (draw_rule _ _ _ _ H.out).mono ?_
    rintro e w1 ⟨r, rfl, r1, r2, b1⟩
    go_wp2_with fail
    refine (irn_any _ _).mono ?_
    rintro e w2 ⟨rfl, b2⟩
    go_wp2_with fail
    refine (srn_any _ _).mono ?_
    rintro e w3 ⟨rfl, b3⟩
    have b : Below w.heap.size w w3 := (b1.trans (b2.mono b1.size)).trans (b3.mono (Nat.le_trans b1.size b2.size))
    clear b1 b2 b3
    by_cases hr : 1 ≤ r ∧ r ≤ 11
    · obtain ⟨ra, rb⟩ := hr
      have hne := ba_ne_nil (rn_full r ⟨ra, rb⟩)
      go_wp2
      go_loopw [6] (fun i wr => ∃ k : Nat, k ≤ 14 ∧ i = .int .i64 k ∧ Below w.heap.size w wr) (fun i _ => 14 - (intOf i).toNat)
      case atStart => exact ⟨0, by omega, rfl, b⟩
      case round =>
        obtain ⟨k, hk, rfl, bk⟩ := hrel
        by_cases hlt : k < 14
        · have hlt' : (k : Int) ≤ 13 := by omega
          by_cases hkr : (k : Int) = r
          · have hkr' : ((k : Int) != r) = false := by simpa using hkr
            clear hkr
            go_wp2
            go_roundw
            case rel => exact ⟨k + 1, by omega, by go_num, bk⟩
            case measure => simp [intOf]; omega
          · have hkr' : ((k : Int) != r) = true := by simpa using hkr
            have hd := ba_ne (a := rn k) (b := rn r) (fun e => hkr (rn_inj r k e.symm ⟨ra, rb⟩))
            clear hkr
            go_wp2_with fail
            refine (irn_any _ _).mono ?_
            rintro e w4 ⟨rfl, b4⟩
            go_wp2
            go_roundw
            case rel => exact ⟨k + 1, by omega, by go_num, bk.trans (b4.mono bk.size)⟩
            case measure => simp [intOf]; omega
        · have hlt' : ¬ (k : Int) ≤ 13 := by omega
          go_wp2
          go_ret
          exact ⟨ret_bool (by simpa using hne), bk⟩
    · have hem : rn r = ⟨#[]⟩ := rn_empty r hr
      have he : (rn r).toList = [] := by rw [hem, ByteArray.toList_eq]
      have hr2 : ¬ (1 ≤ r) ∨ ¬ (r ≤ 11) := by omega
      rw [hem]
      clear hem he
      rcases hr2 with ra | ra
      all_goals
        go_wp2
        go_loopw [6] (fun i wr => ∃ k : Nat, k ≤ 14 ∧ i = .int .i64 k ∧ Below w.heap.size w wr) (fun i _ => 14 - (intOf i).toNat)
        case atStart => exact ⟨0, by omega, rfl, b⟩
        case round =>
          obtain ⟨k, hk, rfl, bk⟩ := hrel
          by_cases hlt : k < 14
          · have hlt' : (k : Int) ≤ 13 := by omega
            by_cases hkr : (k : Int) = r
            · have hkr' : ((k : Int) != r) = false := by simpa using hkr
              clear hkr
              go_wp2
              go_roundw
              case rel => exact ⟨k + 1, by omega, by go_num, bk⟩
              case measure => simp [intOf]; omega
            · have hkr' : ((k : Int) != r) = true := by simpa using hkr
              go_wp2
              go_roundw
              case rel => exact ⟨k + 1, by omega, by go_num, bk⟩
              case measure => simp [intOf]; omega
          · have hlt' : ¬ (k : Int) ≤ 13 := by omega
            go_wp2
            go_ret
            exact ⟨ret_bool (by first | rfl | (simp; omega)), bk⟩
end Go.Proofs.Ytdmdnakmjcikiaa
