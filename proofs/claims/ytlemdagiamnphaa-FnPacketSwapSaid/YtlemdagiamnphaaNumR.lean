/-
  Numbers read from bytes at a place. Conditions: the bytes are there.
-/
import Derived.Test.YtlemdagiamnphaaByteP
import Derived.Test.YtlemdagiamnphaaNum
import Derived.Test.YtlemdagiamnphaaOwn
import Derived.BigQuiet
namespace Go.Proofs.Ytlemdagiamnphaa
open Go.ChangeShapes Go.WideShapes Go.ChangeAt Go.RowKit
set_option linter.unusedVariables false

/-- The world is as it was, but for draws. -/
def Quiet (v : Value) (w : World) (e : Ending) (w' : World) : Prop := e = .returned v ∧ ∃ m, w' = w.drewN m
theorem w64 {x : Int} (h0 : 0 ≤ x) (h1 : x ≤ 9223372036854775807) : wrap64 x = x := by
  unfold wrap64
  omega
theorem or8 (a b i : Nat) (hb : b < 2 ^ i) (ha : a * 2 ^ i < 9223372036854775808) (hi : 2 ^ i < 9223372036854775808) : bits .or .i64 ((a : Int) * ((2 ^ i : Nat) : Int)) (b : Int) = (a : Int) * ((2 ^ i : Nat) : Int) + (b : Int) := by
  rw [← Int.natCast_mul, bits_or_i64_nat _ _ ha (by omega), Nat.mul_comm, ← Nat.two_pow_add_eq_or_of_lt hb, Int.natCast_add]
theorem lAt_eq (s : ByteArray) (a : Nat) (h : a + 4 ≤ s.size) : ((lAt (bl s) a : Nat) : Int) = 16777216 * (s[a].toNat : Int) + 65536 * (s[a + 1].toNat : Int) + 256 * (s[a + 2].toNat : Int) + (s[a + 3].toNat : Int) := by
  unfold lAt wAt
  rw [bAt_get s a (by omega), bAt_get s (a + 1) (by omega), bAt_get s (a + 2) (by omega), bAt_get s (a + 2 + 1) (by omega)]
  show _ = 16777216 * (s[a].toNat : Int) + 65536 * (s[a + 1].toNat : Int) + 256 * (s[a + 2].toNat : Int) + (s[a + 2 + 1].toNat : Int)
  omega
theorem wAt_eq (s : ByteArray) (a : Nat) (h : a + 2 ≤ s.size) : ((wAt (bl s) a : Nat) : Int) = 256 * (s[a].toNat : Int) + (s[a + 1].toNat : Int) := by
  unfold wAt
  rw [bAt_get s a (by omega), bAt_get s (a + 1) (by omega)]
  omega
theorem l1at (s : ByteArray) (a : Nat) (h : a + 2 ≤ s.size) (hs : s.size ≤ 9223372036854775800) (w : World) : Calls Try.prog 31 #[.string s, .int .i64 a] w (Quiet (.int .i64 (wAt (bl s) a)) w) := by
  have h0 : (0 : Int) ≤ (a : Int) := by omega
  have h1 : (a : Int) < (s.size : Int) := by omega
  have h2 : (a : Int) + 1 < (s.size : Int) := by omega
  have h3 : (0 : Int) ≤ (a : Int) + 1 := by omega
  have hw : IntKind.i64.wrap ((a : Int) + 1) = (a : Int) + 1 := IntWalk.i64_in _ (by omega)
  go_enter Try.func31, Try.ntmps31
  go_wp2
  go_quiet (fail)
  go_wp2
  go_ret
  refine ⟨?_, _, rfl⟩
  rw [wAt_eq s a h]
  have := UInt8.toNat_lt s[a]
  have := UInt8.toNat_lt s[a + 1]
  generalize s[a].toNat = x at *
  generalize s[a + 1].toNat = y at *
  rw [w64 (x := (x : Int)) (by omega) (by omega), w64 (x := (y : Int)) (by omega) (by omega), w64 (x := 256 * (x : Int)) (by omega) (by omega), w64 (by omega) (by omega)]
  rfl
theorem iword_get (s : ByteArray) (a : Nat) (h : a + 2 ≤ s.size) (hs : s.size ≤ 9223372036854775800) (w : World) : Calls Try.prog 28 #[.string s, .int .i64 a] w (Quiet (.tuple #[.int .i64 (wAt (bl s) a), .bool true]) w) := by
  have h0 : (0 : Int) ≤ (a : Int) := by omega
  have h1 : (a : Int) < (s.size : Int) := by omega
  have h2 : (a : Int) + 1 < (s.size : Int) := by omega
  have h3 : (0 : Int) ≤ (a : Int) + 1 := by omega
  have hw : IntKind.i64.wrap ((a : Int) + 1) = (a : Int) + 1 := IntWalk.i64_in _ (by omega)
  go_enter Try.func28, Try.ntmps28
  go_wp2
  go_quiet (fail)
  go_wp2
  go_ret2
  refine ⟨?_, _, rfl⟩
  rw [wAt_eq s a h]
  have := UInt8.toNat_lt s[a]
  have := UInt8.toNat_lt s[a + 1]
  generalize s[a].toNat = x at *
  generalize s[a + 1].toNat = y at *
  rw [w64 (x := (x : Int)) (by omega) (by omega), w64 (x := (y : Int)) (by omega) (by omega), w64 (x := (x : Int) * 256) (by omega) (by omega)]
  have e := or8 x y 8 (by omega) (by omega) (by omega)
  simp only [Nat.reducePow] at e
  rw [show ((x : Int) * 256) = (x : Int) * ((256 : Nat) : Int) from rfl, e, Int.mul_comm]
  rfl
theorem ilong_get (s : ByteArray) (a : Nat) (h : a + 4 ≤ s.size) (hs : s.size ≤ 9223372036854775800) (w : World) : Calls Try.prog 26 #[.string s, .int .i64 a] w (Quiet (.tuple #[.int .i64 (lAt (bl s) a), .bool true]) w) := by
  have h0 : (0 : Int) ≤ (a : Int) := by omega
  have h1 : (a : Int) < (s.size : Int) := by omega
  have h2 : (a : Int) + 1 < (s.size : Int) := by omega
  have h3 : (0 : Int) ≤ (a : Int) + 1 := by omega
  have h4 : (a : Int) + 2 < (s.size : Int) := by omega
  have h5 : (0 : Int) ≤ (a : Int) + 2 := by omega
  have h6 : (a : Int) + 3 < (s.size : Int) := by omega
  have h7 : (0 : Int) ≤ (a : Int) + 3 := by omega
  have hw : IntKind.i64.wrap ((a : Int) + 1) = (a : Int) + 1 := IntWalk.i64_in _ (by omega)
  have hw2 : IntKind.i64.wrap ((a : Int) + 2) = (a : Int) + 2 := IntWalk.i64_in _ (by omega)
  have hw3 : IntKind.i64.wrap ((a : Int) + 3) = (a : Int) + 3 := IntWalk.i64_in _ (by omega)
  go_enter Try.func26, Try.ntmps26
  go_wp2
  go_quiet (fail)
  go_wp2
  go_ret2
  refine ⟨?_, _, rfl⟩
  rw [lAt_eq s a h]
  have := UInt8.toNat_lt s[a]
  have := UInt8.toNat_lt s[a + 1]
  have := UInt8.toNat_lt s[a + 2]
  have := UInt8.toNat_lt s[a + 3]
  generalize s[a].toNat = x at *
  generalize s[a + 1].toNat = y at *
  generalize s[a + 2].toNat = z at *
  generalize s[a + 3].toNat = u at *
  rw [w64 (x := (x : Int)) (by omega) (by omega), w64 (x := (y : Int)) (by omega) (by omega), w64 (x := (z : Int)) (by omega) (by omega), w64 (x := (u : Int)) (by omega) (by omega),
    w64 (x := (x : Int) * 16777216) (by omega) (by omega), w64 (x := (y : Int) * 65536) (by omega) (by omega), w64 (x := (z : Int) * 256) (by omega) (by omega)]
  have e1 := or8 x (y * 65536) 24 (by omega) (by omega) (by omega)
  have e2 := or8 (x * 256 + y) (z * 256) 16 (by omega) (by omega) (by omega)
  have e3 := or8 (x * 65536 + y * 256 + z) u 8 (by omega) (by omega) (by omega)
  simp only [Nat.reducePow] at e1 e2 e3
  have f1 : bits .or .i64 ((x : Int) * 16777216) ((y : Int) * 65536) = ((x * 256 + y : Nat) : Int) * ((65536 : Nat) : Int) := by
    have : ((y : Int) * 65536) = ((y * 65536 : Nat) : Int) := by omega
    rw [this]
    refine Eq.trans e1 ?_
    omega
  have f2 : bits .or .i64 (((x * 256 + y : Nat) : Int) * ((65536 : Nat) : Int)) ((z : Int) * 256) = ((x * 65536 + y * 256 + z : Nat) : Int) * ((256 : Nat) : Int) := by
    have : ((z : Int) * 256) = ((z * 256 : Nat) : Int) := by omega
    rw [this]
    refine Eq.trans e2 ?_
    omega
  rw [f1, f2]
  have : bits .or .i64 (((x * 65536 + y * 256 + z : Nat) : Int) * ((256 : Nat) : Int)) (u : Int) = 16777216 * (x : Int) + 65536 * (y : Int) + 256 * (z : Int) + (u : Int) := by
    refine Eq.trans e3 ?_
    omega
  rw [this]
  rfl
end Go.Proofs.Ytlemdagiamnphaa
