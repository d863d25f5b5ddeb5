/-
  What SeenValid returns, in the program and in the reference. Condition: the list can be read.
-/
import Derived.Test.YthmbapmakihmaaaNum
import Derived.Test.YthmbapmakihmaaaOwn
namespace Go.Proofs.Ythmbapmakihmaaa
open Go.ChangeShapes Go.WideShapes Go.ChangeAt Go.RowKit
set_option linter.unusedVariables false

def ints (zs : List Int) : List Value := zs.map (Value.int .i64)
theorem ints_len (zs : List Int) : (ints zs).length = zs.length := by simp [ints]
theorem ints_get {zs : List Int} {k : Nat} (h : k < zs.length) : (ints zs)[k]? = some (.int .i64 zs[k]) := by unfold ints; rw [List.getElem?_map, List.getElem?_eq_getElem h]; rfl
def asc : Int → List Int → Bool
  | _, [] => true
  | low, z :: r => inB z low 16 && asc (z + 1) r
def seenOk (cum : Int) (zs : List Int) : Bool := asc 2 zs && okB cum
theorem asc_drop {zs : List Int} {k : Nat} (h : k < zs.length) (low : Int) : asc low (zs.drop k) = (inB zs[k] low 16 && asc (zs[k] + 1) (zs.drop (k + 1))) := by
  rw [List.drop_eq_getElem_cons h]; rfl
theorem asc_end {zs : List Int} {k : Nat} (h : ¬ k < zs.length) (low : Int) : asc low (zs.drop k) = true := by
  rw [List.drop_of_length_le (by omega)]; rfl

theorem iseen_valid (cum : Int) (A : Option Addr) (n c : Nat) (zs : List Int) (w : World) (hs : Sl w w.heap.size A (ints zs)) (hn : zs.length = n) (hm : n ≤ 9223372036854775807) :
    Calls Try.prog 15 #[.agg #[.int .i64 cum, .slice A n c]] w fun e w' => e = .returned (.bool (seenOk cum zs)) ∧ Below w.heap.size w w' := by
  have HS := Lib.hid hs; have HN := Lib.hid hn; clear hs hn
  go_enter Try.func15, Try.ntmps15
  go_wp2
  go_loop [3, 9] (fun l i => ∃ (k : Nat) (L : Int), k ≤ n ∧ 2 ≤ L ∧ L ≤ 17 ∧ i = .int .i64 k ∧ l = .int .i64 L ∧ Hid (asc 2 zs = asc L (zs.drop k))) (fun _ i => n - (intOf i).toNat)
  case atStart => exact ⟨0, 2, by omega, by omega, by omega, rfl, rfl, Lib.hid rfl⟩
  case round =>
    obtain ⟨k, L, hk, hL1, hL2, rfl, rfl, ha⟩ := hrel
    by_cases hlt : k < n
    · have hz : k < zs.length := by rw [HN.out]; exact hlt
      obtain ⟨b, off, rfl, hb, hc⟩ := HS.out.at_ (j := k) (by rw [ints_len]; exact hz)
      have e1 := hc k _ (ints_get hz)
      have HA := Lib.hid (ha.out.trans (asc_drop hz L))
      clear ha hc
      generalize zs[k] = z at e1 HA
      by_cases hin : inB z L 16 = true
      · obtain ⟨i1, i2⟩ := inB_true hin
        have HA2 := Lib.hid (HA.out.trans (by rw [hin]; rfl) : asc 2 zs = asc (z + 1) (zs.drop (k + 1)))
        clear HA hin
        go_wp2
        go_round
        case rel => exact ⟨k + 1, z + 1, by omega, by omega, by omega, by go_num, rfl, HA2⟩
        case measure => simp [intOf]; omega
      · have hin : inB z L 16 = false := by simpa using hin
        have hno := inB_false hin
        have HA2 := Lib.hid (HA.out.trans (by rw [hin]; rfl) : asc 2 zs = false)
        clear HA hin
        have hno2 : z < L ∨ 16 < z := by omega
        clear hno
        rcases hno2 with h | h
        · go_wp2
          go_ret
          exact ⟨ret_bool (by unfold seenOk; rw [HA2.out]; rfl), by go_grown⟩
        · have h' : ¬ z < L := by omega
          go_wp2
          go_ret
          exact ⟨ret_bool (by unfold seenOk; rw [HA2.out]; rfl), by go_grown⟩
    · have HA2 := Lib.hid (ha.out.trans (asc_end (by rw [HN.out]; exact hlt) L))
      clear ha
      go_wp2_with (go_at_call 20; refine (ok_any _ _).mono ?_; rintro e w' ⟨rfl, rfl⟩)
      go_ret
      exact ⟨ret_bool (by unfold seenOk; rw [HA2.out]; rfl), by go_grown⟩
end Go.Proofs.Ythmbapmakihmaaa
