/-
  What CapturePut returns, in the program and in the reference. Conditions: the list can be read.
-/
import Derived.Test.YtlemdagiamnphaaCapE
import Derived.Test.YtlemdagiamnphaaByteW
import Derived.Lib.AppendStr
import Derived.Deep.QuietTactic
namespace Go.Proofs.Ytlemdagiamnphaa
open Go.ChangeShapes Go.WideShapes Go.ChangeAt Go.RowKit
set_option linter.unusedVariables false

theorem long_cells (n : Int) (h0 : 0 ≤ n) (h1 : n ≤ 4294967295) : ∀ j (hj : j < (long n.toNat).length), (#[Value.int .u8 (n / 16777216), Value.int .u8 (n / 65536 % 256), Value.int .u8 (n / 256 % 256), Value.int .u8 (n % 256)] : Array Value)[j]? = some (.int .u8 ((long n.toNat)[j].toNat : Int)) := by
  intro j hj
  have hj2 : j < 4 := hj
  have e0 : (UInt8.ofNat (n.toNat / 65536 / 256)).toNat = n.toNat / 65536 / 256 := by simp; omega
  have e1 : (UInt8.ofNat (n.toNat / 65536 % 256)).toNat = n.toNat / 65536 % 256 := by simp
  have e2 : (UInt8.ofNat (n.toNat % 65536 / 256)).toNat = n.toNat % 65536 / 256 := by simp; omega
  have e3 : (UInt8.ofNat (n.toNat % 65536 % 256)).toNat = n.toNat % 65536 % 256 := by simp
  match j, hj2 with
  | 0, _ =>
    show some _ = some (Value.int .u8 ((UInt8.ofNat (n.toNat / 65536 / 256)).toNat : Int))
    rw [e0, show n / 16777216 = ((n.toNat / 65536 / 256 : Nat) : Int) from by omega]
    rfl
  | 1, _ =>
    show some _ = some (Value.int .u8 ((UInt8.ofNat (n.toNat / 65536 % 256)).toNat : Int))
    rw [e1, show n / 65536 % 256 = ((n.toNat / 65536 % 256 : Nat) : Int) from by omega]
    rfl
  | 2, _ =>
    show some _ = some (Value.int .u8 ((UInt8.ofNat (n.toNat % 65536 / 256)).toNat : Int))
    rw [e2, show n / 256 % 256 = ((n.toNat % 65536 / 256 : Nat) : Int) from by omega]
    rfl
  | 3, _ =>
    show some _ = some (Value.int .u8 ((UInt8.ofNat (n.toNat % 65536 % 256)).toNat : Int))
    rw [e3, show n % 256 = ((n.toNat % 65536 % 256 : Nat) : Int) from by omega]
    rfl
theorem conv_long (n : Int) (h0 : 0 ≤ n) (h1 : n ≤ 4294967295) (w : World) :
    (convert 22 9 (.slice (some ⟨w.heap.size, 0, none⟩) 4 4)).run Try.prog (w.alloc (.cells #[.int .u8 (n / 16777216), .int .u8 (n / 65536 % 256), .int .u8 (n / 256 % 256), .int .u8 (n % 256)] 5)) = .ok (.string (mk (long n.toNat))) (w.alloc (.cells #[.int .u8 (n / 16777216), .int .u8 (n / 65536 % 256), .int .u8 (n / 256 % 256), .int .u8 (n % 256)] 5)) := by
  refine run_convert_bytes_back (P := Try.prog) _ 22 9 5 ⟨w.heap.size, 0, none⟩ 4 (long n.toNat) Try.underlying22 Try.underlying5 Try.underlying9 (fun j hj => ?_)
  have hadd : (⟨w.heap.size, 0, none⟩ : Addr).add j = ⟨w.heap.size, 0 + j, none⟩ := by unfold Addr.add; split <;> simp_all
  rw [hadd, (Blk.new w _ _).cell, Nat.zero_add]
  exact long_cells n h0 h1 j hj
set_option maxRecDepth 100000 in
theorem ilong_put (n : Int) (h0 : 0 ≤ n) (h1 : n ≤ 4294967295) (w : World) : Calls Try.prog 35 #[.int .i64 n] w fun e w' => e = .returned (.tuple #[.string (mk (long n.toNat)), .bool true]) ∧ Below w.heap.size w w' := by
  have hcv := fun w => conv_long n h0 h1 w
  go_enter Try.func35, Try.ntmps35
  go_wp2
  go_ret2
  exact ⟨rfl, by go_grown⟩
set_option maxRecDepth 100000 in
theorem l1word (n : Int) (h0 : 0 ≤ n) (h1 : n ≤ 65535) (w : World) : Calls Try.prog 45 #[.int .i64 n] w fun e w' => e = .returned (.string (mk (word n.toNat))) ∧ Below w.heap.size w w' := by
  have hcv := fun w => conv_word n h0 h1 w
  go_enter Try.func45, Try.ntmps45
  go_wp2
  go_ret
  exact ⟨rfl, by go_grown⟩
set_option maxRecDepth 100000 in
theorem l1long (n : Int) (h0 : 0 ≤ n) (h1 : n ≤ 4294967295) (w : World) : Calls Try.prog 24 #[.int .i64 n] w fun e w' => e = .returned (.string (mk (long n.toNat))) ∧ Below w.heap.size w w' := by
  have z1 : (mk (word (n / 65536).toNat)).size = 2 := rfl
  have z2 : (mk (word (n % 65536).toNat)).size = 2 := rfl
  have HM := Lib.hid (show mk (word (n / 65536).toNat) ++ mk (word (n % 65536).toNat) = mk (long n.toNat) from by
    rw [mk_append]
    unfold long
    rw [show (n / 65536).toNat = n.toNat / 65536 from by omega, show (n % 65536).toNat = n.toNat % 65536 from by omega])
  go_enter Try.func24, Try.ntmps24
  go_wp2_with fail
  refine (l1word _ (by omega) (by omega) _).mono ?_
  generalize mk (word (n / 65536).toNat) = S at z1 HM ⊢
  rintro e w1 ⟨rfl, b1⟩
  go_wp2_with fail
  refine (l1word _ (by omega) (by omega) _).mono ?_
  generalize mk (word (n % 65536).toNat) = T at z2 HM ⊢
  rintro e w2 ⟨rfl, b2⟩
  go_wp2
  go_ret
  exact ⟨by rw [← HM.out]; rfl, bstep b1 b2 b1.size⟩
theorem rec_bytes (t : Int) (s : ByteArray) : mk (recBytes (t, s)) = mk (long t.toNat) ++ mk (word s.size) ++ s := bl_inj (by
  rw [bl_append, bl_append]
  rfl)
theorem bsize (a b : ByteArray) : (a ++ b).size = a.size + b.size := by rw [← bl_len, bl_append, List.length_append, bl_len, bl_len]
theorem capPut_yes {l : List Rec} (h : capB l = true) : capPut l = mk (capBytes l) := if_pos h
theorem capPut_no {l : List Rec} (h : capB l = false) : capPut l = ⟨#[]⟩ := if_neg (by simp [h])
theorem allBytes_take {l : List Rec} {k : Nat} {r : Rec} (h : l[k]? = some r) : allBytes (l.take (k + 1)) = allBytes (l.take k) ++ recBytes r := by rw [ftake_succ h, allBytes_snoc]
theorem timesB_mem : ∀ {l : List Rec} {low : Int}, timesB low l = true → ∀ r ∈ l, low ≤ r.1 ∧ r.1 ≤ 4294967295 ∧ r.2.size ≤ 120
  | [], _, _, r, h => by simp at h
  | y :: l, low, h, r, hr => by
    simp only [timesB, Bool.and_eq_true] at h
    have hy := recB_true h.1
    rcases List.mem_cons.1 hr with rfl | hr
    · exact hy
    · have := timesB_mem h.2 r hr
      omega
theorem allBytes_le : ∀ (l : List Rec), (∀ r ∈ l, r.2.size ≤ 120) → (allBytes l).length ≤ 126 * l.length
  | [], _ => by simp [allBytes]
  | r :: l, h => by
    have h1 := h r (by simp)
    have h2 := allBytes_le l (fun x hx => h x (by simp [hx]))
    rw [allBytes_cons, List.length_append, recBytes_len, List.length_cons]
    omega
end Go.Proofs.Ytlemdagiamnphaa
