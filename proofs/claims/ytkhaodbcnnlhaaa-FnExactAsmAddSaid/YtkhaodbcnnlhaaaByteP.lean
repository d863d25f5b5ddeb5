/-
  Numbers of two and of four bytes, in plain Lean. No condition but those that each theorem bears.
-/
import Derived.Test.YtkhaodbcnnlhaaaBase
namespace Go.Proofs.Ytkhaodbcnnlhaaa
set_option linter.unusedVariables false

def bl (s : ByteArray) : List UInt8 := s.data.toList
def mk (l : List UInt8) : ByteArray := ⟨l.toArray⟩
theorem bl_mk (l : List UInt8) : bl (mk l) = l := rfl
theorem mk_bl (s : ByteArray) : mk (bl s) = s := by
  unfold mk bl
  simp
theorem bl_len (s : ByteArray) : (bl s).length = s.size := by
  show s.data.toList.length = s.data.size
  exact Array.length_toList
theorem mk_size (l : List UInt8) : (mk l).size = l.length := by
  show l.toArray.size = l.length
  exact List.size_toArray
theorem bl_inj {a b : ByteArray} (h : bl a = bl b) : a = b := by rw [← mk_bl a, h, mk_bl]
theorem bl_append (a b : ByteArray) : bl (a ++ b) = bl a ++ bl b := by
  unfold bl
  simp
theorem mk_append (a b : List UInt8) : mk a ++ mk b = mk (a ++ b) := bl_inj (by rw [bl_append]; rfl)
theorem bl_extract (s : ByteArray) (a b : Nat) : bl (s.extract a b) = ((bl s).drop a).take (b - a) := by
  unfold bl
  rw [ByteArray.data_extract, Array.toList_extract]
theorem bl_toList (s : ByteArray) : s.toList = bl s := by unfold bl; rw [ByteArray.toList_eq]
theorem bl_get (s : ByteArray) (i : Nat) (h : i < s.size) : (bl s)[i]? = some s[i] := by
  unfold bl
  rw [Array.getElem?_toList, Array.getElem?_eq_getElem h]
  rfl

/-! ### Bytes at a place -/
def bAt (l : List UInt8) (i : Nat) : Nat := (l.getD i 0).toNat
def wAt (l : List UInt8) (i : Nat) : Nat := 256 * bAt l i + bAt l (i + 1)
def lAt (l : List UInt8) (i : Nat) : Nat := 65536 * wAt l i + wAt l (i + 2)
theorem bAt_lt (l : List UInt8) (i : Nat) : bAt l i < 256 := UInt8.toNat_lt _
theorem wAt_lt (l : List UInt8) (i : Nat) : wAt l i < 65536 := by
  have := bAt_lt l i; have := bAt_lt l (i + 1)
  unfold wAt; omega
theorem lAt_lt (l : List UInt8) (i : Nat) : lAt l i < 4294967296 := by
  have := wAt_lt l i; have := wAt_lt l (i + 2)
  unfold lAt; omega
theorem bAt_get (s : ByteArray) (i : Nat) (h : i < s.size) : bAt (bl s) i = s[i].toNat := by
  unfold bAt
  rw [List.getD_eq_getElem?_getD, bl_get s i h]
  rfl
theorem bAt_drop (l : List UInt8) (k i : Nat) : bAt (l.drop k) i = bAt l (k + i) := by
  unfold bAt
  simp [List.getD_eq_getElem?_getD, List.getElem?_drop]
theorem wAt_drop (l : List UInt8) (k i : Nat) : wAt (l.drop k) i = wAt l (k + i) := by
  unfold wAt
  rw [bAt_drop, bAt_drop, Nat.add_assoc]
theorem lAt_drop (l : List UInt8) (k i : Nat) : lAt (l.drop k) i = lAt l (k + i) := by
  unfold lAt
  rw [wAt_drop, wAt_drop, Nat.add_assoc]
theorem bAt_left (a b : List UInt8) (i : Nat) (h : i < a.length) : bAt (a ++ b) i = bAt a i := by
  unfold bAt
  simp [List.getD_eq_getElem?_getD, List.getElem?_append_left h]
theorem wAt_left (a b : List UInt8) (i : Nat) (h : i + 1 < a.length) : wAt (a ++ b) i = wAt a i := by
  unfold wAt
  rw [bAt_left a b i (by omega), bAt_left a b _ h]
theorem lAt_left (a b : List UInt8) (i : Nat) (h : i + 3 < a.length) : lAt (a ++ b) i = lAt a i := by
  unfold lAt
  rw [wAt_left a b i (by omega), wAt_left a b _ (by omega)]
theorem bAt_right (a b : List UInt8) (i : Nat) : bAt (a ++ b) (a.length + i) = bAt b i := by
  unfold bAt
  rw [List.getD_eq_getElem?_getD, List.getD_eq_getElem?_getD, List.getElem?_append_right (by omega), Nat.add_sub_cancel_left]
theorem wAt_right (a b : List UInt8) (i : Nat) : wAt (a ++ b) (a.length + i) = wAt b i := by
  unfold wAt
  rw [bAt_right, Nat.add_assoc, bAt_right]
theorem lAt_right (a b : List UInt8) (i : Nat) : lAt (a ++ b) (a.length + i) = lAt b i := by
  unfold lAt
  rw [wAt_right, Nat.add_assoc, wAt_right]
theorem bAt_take (l : List UInt8) (k i : Nat) (h : i < k) : bAt (l.take k) i = bAt l i := by
  unfold bAt
  simp [List.getD_eq_getElem?_getD, h]
theorem wAt_take (l : List UInt8) (k i : Nat) (h : i + 1 < k) : wAt (l.take k) i = wAt l i := by
  unfold wAt
  rw [bAt_take _ _ _ (by omega), bAt_take _ _ _ h]
theorem lAt_take (l : List UInt8) (k i : Nat) (h : i + 3 < k) : lAt (l.take k) i = lAt l i := by
  unfold lAt
  rw [wAt_take _ _ _ (by omega), wAt_take _ _ _ (by omega)]

/-! ### Numbers written -/
def word (n : Nat) : List UInt8 := [UInt8.ofNat (n / 256), UInt8.ofNat (n % 256)]
def long (n : Nat) : List UInt8 := word (n / 65536) ++ word (n % 65536)
theorem word_len (n : Nat) : (word n).length = 2 := rfl
theorem long_len (n : Nat) : (long n).length = 4 := rfl
theorem wAt_word (n : Nat) (h : n < 65536) : wAt (word n) 0 = n := by
  unfold wAt bAt word
  simp
  omega
theorem lAt_long (n : Nat) (h : n < 4294967296) : lAt (long n) 0 = n := by
  have e1 : wAt (long n) 0 = n / 65536 := by
    unfold long
    rw [wAt_left _ _ _ (by rw [word_len]; omega), wAt_word _ (by omega)]
  have e2 : wAt (long n) (0 + 2) = n % 65536 := by
    unfold long
    have := wAt_right (word (n / 65536)) (word (n % 65536)) 0
    rw [word_len] at this
    rw [show 0 + 2 = 2 + 0 from rfl, this, wAt_word _ (by omega)]
  unfold lAt
  rw [e1, e2]
  omega
theorem u8_ofNat (b : UInt8) : UInt8.ofNat b.toNat = b := by simp
theorem word_wAt (l : List UInt8) (h : 2 ≤ l.length) : word (wAt l 0) = l.take 2 := by
  match l, h with
  | a :: b :: r, _ =>
    have ha := UInt8.toNat_lt a
    have hb := UInt8.toNat_lt b
    show [UInt8.ofNat ((256 * a.toNat + b.toNat) / 256), UInt8.ofNat ((256 * a.toNat + b.toNat) % 256)] = [a, b]
    rw [show (256 * a.toNat + b.toNat) / 256 = a.toNat from by omega, show (256 * a.toNat + b.toNat) % 256 = b.toNat from by omega, u8_ofNat, u8_ofNat]
theorem long_lAt (l : List UInt8) (h : 4 ≤ l.length) : long (lAt l 0) = l.take 4 := by
  have h1 := wAt_lt l 0
  have h2 := wAt_lt l 2
  have e0 : lAt l 0 = 65536 * wAt l 0 + wAt l 2 := rfl
  have e1 : lAt l 0 / 65536 = wAt l 0 := by omega
  have e2 : lAt l 0 % 65536 = wAt l 2 := by omega
  unfold long
  rw [e1, e2, word_wAt l (by omega)]
  have := word_wAt (l.drop 2) (by rw [List.length_drop]; omega)
  rw [wAt_drop] at this
  rw [this, show (4 : Nat) = 2 + 2 from rfl, List.take_add]
end Go.Proofs.Ytkhaodbcnnlhaaa
