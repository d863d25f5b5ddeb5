/-
  Marks of records: what the laws' helpers write and find again. Conditions: those that each theorem bears.
-/
import Derived.Test.YtlemdagiamnphaaCapE
import Derived.Test.YtlemdagiamnphaaCapB0
import Derived.Test.YtlemdagiamnphaaNumR
import Derived.Laws.IdiomStrings
namespace Go.Proofs.Ytlemdagiamnphaa
open Go.ChangeShapes Go.WideShapes Go.ChangeAt Go.RowKit
set_option linter.unusedVariables false

theorem conv_one (z : Int) (h0 : 0 ≤ z) (h1 : z ≤ 255) (w : World) :
    (convert 22 9 (.slice (some ⟨w.heap.size, 0, none⟩) 1 1)).run Try.prog (w.alloc (.cells #[.int .u8 z] 5)) = .ok (.string (mk [UInt8.ofNat z.toNat])) (w.alloc (.cells #[.int .u8 z] 5)) := by
  refine run_convert_bytes_back (P := Try.prog) _ 22 9 5 ⟨w.heap.size, 0, none⟩ 1 [UInt8.ofNat z.toNat] Try.underlying22 Try.underlying5 Try.underlying9 (fun j hj => ?_)
  have hadd : (⟨w.heap.size, 0, none⟩ : Addr).add j = ⟨w.heap.size, 0 + j, none⟩ := by unfold Addr.add; split <;> simp_all
  rw [hadd, (Blk.new w _ _).cell, Nat.zero_add]
  have hj2 : j < 1 := hj
  obtain rfl : j = 0 := by omega
  show some _ = some (Value.int .u8 ((UInt8.ofNat z.toNat).toNat : Int))
  rw [show ((UInt8.ofNat z.toNat).toNat : Int) = z from by simp; omega]
  rfl
set_option maxHeartbeats 800000 in
theorem mark_text (k : Nat) (h0 : 0 < k) (h1 : k ≤ 400000000) (w : World) : Calls Try.prog 54 #[.int .i64 k] w fun e w' => e = .returned (.string (mtext k)) ∧ Below w.heap.size w w' := by
  have hk : ¬ ((k : Int) ≤ 0) := by omega
  go_enter Try.func54, Try.ntmps54
  go_wp2
  go_loopw [0, 3] (fun kv o wr => ∃ (f n : Nat) (acc : List UInt8) (S : ByteArray), kv = .int .i64 n ∧ n ≤ f ∧ o = .string S ∧ Hid (S = mk acc) ∧ Hid (mt f n acc = mt k k []) ∧ S.size + n ≤ k ∧ Below w.heap.size w wr) (fun kv _ _ => (intOf kv).toNat)
  case atStart => exact ⟨k, k, [], ⟨#[]⟩, rfl, by omega, rfl, Lib.hid rfl, Lib.hid rfl, by show 0 + k ≤ k; omega, Below.refl _ _⟩
  case round =>
    obtain ⟨f, n, acc, S, rfl, hf, rfl, hS, hm, hsz, hb⟩ := hrel
    have B := Lib.hid hb
    clear hb
    by_cases hn : 0 < n
    · obtain ⟨f, rfl⟩ : ∃ g, f = g + 1 := ⟨f - 1, by omega⟩
      have HM := Lib.hid ((mt_step f n acc hn).symm.trans hm.out)
      have hz0 : (0 : Int) ≤ 48 + (n : Int) % 10 := by omega
      have hz1 : 48 + (n : Int) % 10 ≤ 255 := by omega
      have hcv := fun w => conv_one (48 + (n : Int) % 10) hz0 hz1 w
      have HZ := Lib.hid (show (48 + (n : Int) % 10).toNat = 48 + n % 10 from by omega)
      have hs1 : (mk [UInt8.ofNat (48 + (n : Int) % 10).toNat]).size = 1 := rfl
      have HA := Lib.hid (show mk [UInt8.ofNat (48 + (n : Int) % 10).toNat] ++ S = mk (UInt8.ofNat (48 + n % 10) :: acc) from by rw [hS.out, mk_append, HZ.out]; rfl)
      generalize mk [UInt8.ofNat (48 + (n : Int) % 10).toNat] = U at hcv hs1 HA
      have hs2 : (U ++ S).size = S.size + 1 := by rw [← bl_len, bl_append, List.length_append, bl_len, bl_len]; omega
      clear hm hS
      go_wp2
      go_roundw
      case rel => exact ⟨f, n / 10, UInt8.ofNat (48 + n % 10) :: acc, U ++ S, by go_num, by omega, rfl, HA, HM, by omega, B.out.alloc B.out.size _⟩
      case measure => simp [intOf]; omega
    · obtain rfl : n = 0 := by omega
      have HE := Lib.hid (show mtext k = mk [109] ++ S from by
        unfold mtext
        rw [← hm.out, mt_zero, hS.out, mk_append]
        rfl)
      clear hm hS
      go_wp2
      go_ret
      exact ⟨by rw [HE.out]; rfl, B.out⟩
def rmarks (k : Nat) (n : Nat) : List Rec := (List.range n).map fun i => (((k + 2 * i : Nat) : Int), mtext (k + 2 * i + 1))
theorem rmarks_len (k n : Nat) : (rmarks k n).length = n := by simp [rmarks]
theorem rmarks_get (k n j : Nat) (h : j < n) : (rmarks k n)[j]? = some (((k + 2 * j : Nat) : Int), mtext (k + 2 * j + 1)) := by
  unfold rmarks
  rw [List.getElem?_map, List.getElem?_range h]
  rfl
end Go.Proofs.Ytlemdagiamnphaa
