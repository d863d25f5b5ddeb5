/-
  Numbers of two and of four bytes: what the functions that write and read them return. Conditions: those that each theorem bears.
-/
import Derived.Test.YtlemdagiamnphaaByteP
import Derived.Test.YtlemdagiamnphaaNum
import Derived.Test.YtlemdagiamnphaaOwn
import Derived.Laws.IdiomStrings
namespace Go.Proofs.Ytlemdagiamnphaa
open Go.ChangeShapes Go.WideShapes Go.ChangeAt Go.RowKit
set_option linter.unusedVariables false

theorem word_cells (n : Int) (h0 : 0 ≤ n) (h1 : n ≤ 65535) : ∀ j (hj : j < (word n.toNat).length), (#[Value.int .u8 (n / 256), Value.int .u8 (n % 256)] : Array Value)[j]? = some (.int .u8 ((word n.toNat)[j].toNat : Int)) := by
  intro j hj
  have hj2 : j < 2 := hj
  have e0 : (UInt8.ofNat (n.toNat / 256)).toNat = n.toNat / 256 := by simp; omega
  have e1 : (UInt8.ofNat (n.toNat % 256)).toNat = n.toNat % 256 := by simp
  match j, hj2 with
  | 0, _ =>
    show some _ = some (Value.int .u8 ((UInt8.ofNat (n.toNat / 256)).toNat : Int))
    rw [e0, show n / 256 = ((n.toNat / 256 : Nat) : Int) from by omega]
    rfl
  | 1, _ =>
    show some _ = some (Value.int .u8 ((UInt8.ofNat (n.toNat % 256)).toNat : Int))
    rw [e1, show n % 256 = ((n.toNat % 256 : Nat) : Int) from by omega]
    rfl
theorem conv_word (n : Int) (h0 : 0 ≤ n) (h1 : n ≤ 65535) (w : World) :
    (convert 22 9 (.slice (some ⟨w.heap.size, 0, none⟩) 2 2)).run Try.prog (w.alloc (.cells #[.int .u8 (n / 256), .int .u8 (n % 256)] 5)) = .ok (.string (mk (word n.toNat))) (w.alloc (.cells #[.int .u8 (n / 256), .int .u8 (n % 256)] 5)) := by
  refine run_convert_bytes_back (P := Try.prog) _ 22 9 5 ⟨w.heap.size, 0, none⟩ 2 (word n.toNat) Try.underlying22 Try.underlying5 Try.underlying9 (fun j hj => ?_)
  have hadd : (⟨w.heap.size, 0, none⟩ : Addr).add j = ⟨w.heap.size, 0 + j, none⟩ := by unfold Addr.add; split <;> simp_all
  rw [hadd, (Blk.new w _ _).cell, Nat.zero_add]
  exact word_cells n h0 h1 j hj

set_option maxRecDepth 100000 in
theorem iword_put (n : Int) (h0 : 0 ≤ n) (h1 : n ≤ 65535) (w : World) : Calls Try.prog 52 #[.int .i64 n] w fun e w' => e = .returned (.tuple #[.string (mk (word n.toNat)), .bool true]) ∧ Below w.heap.size w w' := by
  have hcv := fun w => conv_word n h0 h1 w
  go_enter Try.func52, Try.ntmps52
  go_wp2
  go_ret2
  exact ⟨rfl, by go_grown⟩
def wordsOf (zs : List Int) : List UInt8 := zs.flatMap fun z => word z.toNat
theorem wordsOf_len : ∀ zs : List Int, (wordsOf zs).length = 2 * zs.length
  | [] => rfl
  | z :: r => by
    have := wordsOf_len r
    unfold wordsOf at this ⊢
    rw [List.flatMap_cons, List.length_append, this, word_len, List.length_cons]
    omega
set_option maxRecDepth 100000 in
theorem iwords (A : Option Addr) (n c : Nat) (zs : List Int) (w : World) (hs : Sl w w.heap.size A (zs.map (Value.int .i64))) (hn : zs.length = n) (hm : n ≤ 1000) (hz : ∀ z ∈ zs, 0 ≤ z ∧ z ≤ 65535) :
    Calls Try.prog 36 #[.slice A n c] w fun e w' => e = .returned (.string (mk (wordsOf zs))) ∧ Below w.heap.size w w' := by
  have HS := Lib.hid hs; have HN := Lib.hid hn; have HZ := Lib.hid hz; clear hs hn hz
  go_enter Try.func36, Try.ntmps36
  go_wp2
  go_loopw [3, 10] (fun s i wr => ∃ k : Nat, k ≤ n ∧ i = .int .i64 k ∧ s = .string (mk (wordsOf (zs.take k))) ∧ Below w.heap.size w wr) (fun _ i _ => n - (intOf i).toNat)
  case atStart => exact ⟨0, by omega, rfl, rfl, Below.refl _ _⟩
  case round =>
    obtain ⟨k, hk, rfl, rfl, hb⟩ := hrel
    have BR := Lib.hid hb
    clear hb
    by_cases hlt : k < n
    · have hkl : k < zs.length := by rw [HN.out]; exact hlt
      obtain ⟨z, hz⟩ : ∃ z, zs[k]? = some z := ⟨_, List.getElem?_eq_getElem hkl⟩
      obtain ⟨z0, z1⟩ := HZ.out z (List.mem_of_getElem? hz)
      obtain ⟨b, off, rfl, hbl, hc⟩ := ((HS.out.below BR.out (Nat.le_refl _)).more BR.out.size).at_ (j := k) (by rw [List.length_map]; exact hkl)
      have e1 := hc k (.int .i64 z) (by rw [List.getElem?_map, hz]; rfl)
      have HW := Lib.hid (show wordsOf (zs.take (k + 1)) = wordsOf (zs.take k) ++ word z.toNat from by
        unfold wordsOf
        rw [List.take_add_one, hz]
        simp)
      have hsz : (mk (wordsOf (zs.take k))).size ≤ 2000 := by
        have h1 := HN.out
        rw [mk_size, wordsOf_len, List.length_take]
        omega
      have hs2 : (mk (word z.toNat)).size = 2 := rfl
      have HM := Lib.hid (mk_append (wordsOf (zs.take k)) (word z.toNat))
      clear hc hz hkl
      generalize mk (wordsOf (zs.take k)) = S at hsz HM ⊢
      generalize hT : mk (word z.toNat) = T at hs2 HM
      have HT := Lib.hid hT
      clear hT
      go_wp2_with fail
      refine (iword_put z z0 z1 _).mono ?_
      rw [HT.out]
      rintro e w2 ⟨rfl, b2⟩
      have B2 := Lib.hid (bstep BR.out b2 BR.out.size)
      clear b2 e1
      go_wp2
      go_roundw
      case rel => exact ⟨k + 1, by omega, by go_num, by rw [HW.out, ← HM.out], B2.out⟩
      case measure => simp [intOf]; omega
    · have HE := Lib.hid (show zs.take k = zs from List.take_of_length_le (by rw [HN.out]; omega))
      go_wp2
      go_ret
      exact ⟨by rw [HE.out]; rfl, BR.out⟩
end Go.Proofs.Ytlemdagiamnphaa
