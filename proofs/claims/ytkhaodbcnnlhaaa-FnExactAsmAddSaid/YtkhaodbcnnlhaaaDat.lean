/-
  Rows of parts: their cells; when a part is valid; where a number lies. Conditions: those that each theorem bears.
-/
import Derived.Test.YtkhaodbcnnlhaaaNum
import Derived.Test.YtkhaodbcnnlhaaaFlat
import Derived.Test.YtkhaodbcnnlhaaaAppend
import Derived.Deep.RegionHeld3
namespace Go.Proofs.Ytkhaodbcnnlhaaa
open Go.ChangeShapes Go.WideShapes Go.ChangeAt Go.RowKit
set_option linter.unusedVariables false
set_option linter.unusedSimpArgs false

structure Dat where
  tsn : Int
  stream : Int
  ssn : Int
  first : Bool
  last : Bool
  loose : Bool
  text : ByteArray
def datC (d : Dat) : List Value := [.int .i64 d.tsn, .int .i64 d.stream, .int .i64 d.ssn, .bool d.first, .bool d.last, .bool d.loose, .string d.text]
theorem datC_len (d : Dat) : (datC d).length = 7 := rfl
def dats (l : List Dat) : List Value := l.flatMap datC
theorem dats_len (l : List Dat) : (dats l).length = l.length * 7 := flat_len datC 7 datC_len l
theorem dats_one (l : List Dat) : ∀ u ∈ dats l, u.oneCell' = true := flat_one (fun g u hu => by
  unfold datC at hu
  simp at hu
  rcases hu with rfl | rfl | rfl | rfl | rfl | rfl | rfl <;> rfl)
theorem dats_app (a b : List Dat) : dats (a ++ b) = dats a ++ dats b := by unfold dats; rw [List.flatMap_append]
/-- The seven cells of an element. -/
structure DatAt (w : World) (b o : Nat) (d : Dat) : Prop where
  e0 : w.cell? ⟨b, o, none⟩ = some (.int .i64 d.tsn)
  e1 : w.cell? ⟨b, o + 1, none⟩ = some (.int .i64 d.stream)
  e2 : w.cell? ⟨b, o + 2, none⟩ = some (.int .i64 d.ssn)
  e3 : w.cell? ⟨b, o + 3, none⟩ = some (.bool d.first)
  e4 : w.cell? ⟨b, o + 4, none⟩ = some (.bool d.last)
  e5 : w.cell? ⟨b, o + 5, none⟩ = some (.bool d.loose)
  e6 : w.cell? ⟨b, o + 6, none⟩ = some (.string d.text)
theorem dats_elem {w : World} {B : Nat} {A : Option Addr} {l : List Dat} (hs : Sl w B A (dats l)) {i : Nat} {d : Dat} (h : l[i]? = some d) :
    ∃ b off, A = some ⟨b, off, none⟩ ∧ b < B ∧ DatAt w b (off + i * 7) d := by
  obtain ⟨b, off, e, hb, hc⟩ := hs.elem datC_len (by omega) h
  exact ⟨b, off, e, hb, hc 0 _ rfl, hc 1 _ rfl, hc 2 _ rfl, hc 3 _ rfl, hc 4 _ rfl, hc 5 _ rfl, hc 6 _ rfl⟩
theorem Sl.dat_take {w : World} {B : Nat} {A : Option Addr} {l : List Dat} (hs : Sl w B A (dats l)) (k : Nat) : Sl w B A (dats (l.take k)) := by
  have h := hs.take (k * 7)
  unfold dats at h ⊢
  rwa [flat_take datC_len] at h
/-- Parts that Go can hold. -/
def datR (d : Dat) : Prop := (-9223372036854775808 ≤ d.tsn ∧ d.tsn ≤ 9223372036854775807) ∧ (-9223372036854775808 ≤ d.stream ∧ d.stream ≤ 9223372036854775807) ∧ (-9223372036854775808 ≤ d.ssn ∧ d.ssn ≤ 9223372036854775807) ∧ d.text.size ≤ 9223372036854775807
def Dats (l : List Dat) : Prop := ∀ d ∈ l, datR d
theorem Dats.take {l : List Dat} (h : Dats l) (k : Nat) : Dats (l.take k) := fun d hd => h d (List.mem_of_mem_take hd)

def datB (d : Dat) : Bool := okB d.tsn && okB d.stream && okB d.ssn && decide (1 ≤ d.text.size ∧ d.text.size ≤ 20)
theorem datB_true {d : Dat} (h : datB d = true) : okB d.tsn = true ∧ okB d.stream = true ∧ okB d.ssn = true ∧ 1 ≤ d.text.size ∧ d.text.size ≤ 20 := by
  unfold datB at h
  simp only [Bool.and_eq_true, decide_eq_true_eq] at h
  exact ⟨h.1.1.1, h.1.1.2, h.1.2, h.2.1, h.2.2⟩
/-- The index of the first part with a number, from k on; or -1. -/
def atK (t : Int) : List Dat → Nat → Int
  | [], _ => -1
  | d :: l, k => if d.tsn = t then (k : Int) else atK t l (k + 1)
theorem atK_drop {l : List Dat} {k : Nat} {d : Dat} (h : l[k]? = some d) (t : Int) : atK t (l.drop k) k = if d.tsn = t then (k : Int) else atK t (l.drop (k + 1)) (k + 1) := by
  rw [List.drop_eq_getElem_cons (List.getElem?_eq_some_iff.1 h).1, (List.getElem?_eq_some_iff.1 h).2]
  rfl
theorem atK_end {l : List Dat} {k : Nat} (h : l.length ≤ k) (t : Int) : atK t (l.drop k) k = -1 := by rw [List.drop_eq_nil_of_le h]; rfl
theorem atK_range (t : Int) : ∀ (l : List Dat) (k : Nat), atK t l k = -1 ∨ ((k : Int) ≤ atK t l k ∧ atK t l k < (k : Int) + l.length)
  | [], k => .inl rfl
  | d :: l, k => by
    unfold atK
    split
    · right; simp only [List.length_cons]; omega
    · rcases atK_range t l (k + 1) with h | h
      · exact .inl h
      · right; simp only [List.length_cons]; omega
theorem atK_take (t : Int) : ∀ (l : List Dat) (k i : Nat) (d : Dat), l[i]? = some d → d.tsn = t → (atK t l k < (k : Int) + i ↔ 0 ≤ atK t (l.take i) k)
  | [], _, _, _, h, _ => by simp at h
  | x :: l, k, 0, d, h, e => by
    simp at h
    subst h
    simp only [List.take_zero, atK, if_pos e]
    omega
  | x :: l, k, i + 1, d, h, e => by
    simp only [List.take_succ_cons, atK]
    split
    · omega
    · have := atK_take t l (k + 1) i d (by simpa using h) e
      rw [← this]
      omega

theorem idata_ok (t st sn : Int) (f l lo : Bool) (s : ByteArray) (hb : s.size ≤ 9223372036854775807) (w : World) : Calls Try.prog 43 #[.agg #[.int .i64 t, .int .i64 st, .int .i64 sn, .bool f, .bool l, .bool lo, .string s]] w fun e w' => e = .returned (.bool (datB ⟨t, st, sn, f, l, lo, s⟩)) ∧ Below w.heap.size w w' := by
  have HE := Lib.hid (show datB ⟨t, st, sn, f, l, lo, s⟩ = (okB t && okB st && okB sn && decide (1 ≤ s.size) && decide (s.size ≤ 20)) from by
    unfold datB
    simp only [Bool.decide_and, Bool.and_assoc])
  by_cases h1 : okB t = true
  · by_cases h2 : okB st = true
    · by_cases h3 : okB sn = true
      · by_cases h4 : 1 ≤ s.size
        · by_cases h5 : s.size ≤ 20
          all_goals
            go_enter Try.func43, Try.ntmps43
            go_wp2_with (go_at_call 60; refine (ok_any _ _).mono ?_; rintro e w' ⟨rfl, rfl⟩)
            go_ret
            exact ⟨ret_bool (by rw [HE.out]; first | (simp_all; done) | (simp_all; omega)), by go_grown⟩
        · skip
          go_enter Try.func43, Try.ntmps43
          go_wp2_with (go_at_call 60; refine (ok_any _ _).mono ?_; rintro e w' ⟨rfl, rfl⟩)
          go_ret
          exact ⟨ret_bool (by rw [HE.out]; first | (simp_all; done) | (simp_all; omega)), by go_grown⟩
      · replace h3 := Bool.eq_false_iff.2 h3
        go_enter Try.func43, Try.ntmps43
        go_wp2_with (go_at_call 60; refine (ok_any _ _).mono ?_; rintro e w' ⟨rfl, rfl⟩)
        go_ret
        exact ⟨ret_bool (by rw [HE.out]; first | (simp_all; done) | (simp_all; omega)), by go_grown⟩
    · replace h2 := Bool.eq_false_iff.2 h2
      go_enter Try.func43, Try.ntmps43
      go_wp2_with (go_at_call 60; refine (ok_any _ _).mono ?_; rintro e w' ⟨rfl, rfl⟩)
      go_ret
      exact ⟨ret_bool (by rw [HE.out]; first | (simp_all; done) | (simp_all; omega)), by go_grown⟩
  · replace h1 := Bool.eq_false_iff.2 h1
    go_enter Try.func43, Try.ntmps43
    go_wp2_with (go_at_call 60; refine (ok_any _ _).mono ?_; rintro e w' ⟨rfl, rfl⟩)
    go_ret
    exact ⟨ret_bool (by rw [HE.out]; first | (simp_all; done) | (simp_all; omega)), by go_grown⟩
theorem sdata_ok (t st sn : Int) (f l lo : Bool) (s : ByteArray) (hb : s.size ≤ 9223372036854775807) (w : World) : Calls Try.prog 37 #[.agg #[.int .i64 t, .int .i64 st, .int .i64 sn, .bool f, .bool l, .bool lo, .string s]] w fun e w' => e = .returned (.bool (datB ⟨t, st, sn, f, l, lo, s⟩)) ∧ Below w.heap.size w w' := by
  have HE := Lib.hid (show datB ⟨t, st, sn, f, l, lo, s⟩ = (okB t && okB st && okB sn && inB s.size 1 20) from by
    unfold datB inB
    exact congrArg (okB t && okB st && okB sn && ·) (decide_eq_decide.2 (by show (1 ≤ s.size ∧ s.size ≤ 20) ↔ ((1 : Int) ≤ (s.size : Int) ∧ (s.size : Int) ≤ 20); omega)))
  by_cases h1 : okB t = true
  · by_cases h2 : okB st = true
    · by_cases h3 : okB sn = true
      · by_cases h4 : inB s.size 1 20 = true
        all_goals
          try replace h4 := Bool.eq_false_iff.2 h4
          go_enter Try.func37, Try.ntmps37
          go_wp2_with (first | (go_at_call 56; refine (l3ok_any _ _).mono ?_; rintro e w' ⟨rfl, rfl⟩) | (go_at_call 55; refine (in_any _ _ _ _).mono ?_; rintro e w' ⟨rfl, rfl⟩))
          go_ret
          exact ⟨ret_bool (by rw [HE.out]; first | (simp_all; done) | (simp_all; omega)), by go_grown⟩
      · replace h3 := Bool.eq_false_iff.2 h3
        go_enter Try.func37, Try.ntmps37
        go_wp2_with (first | (go_at_call 56; refine (l3ok_any _ _).mono ?_; rintro e w' ⟨rfl, rfl⟩) | (go_at_call 55; refine (in_any _ _ _ _).mono ?_; rintro e w' ⟨rfl, rfl⟩))
        go_ret
        exact ⟨ret_bool (by rw [HE.out]; first | (simp_all; done) | (simp_all; omega)), by go_grown⟩
    · replace h2 := Bool.eq_false_iff.2 h2
      go_enter Try.func37, Try.ntmps37
      go_wp2_with (first | (go_at_call 56; refine (l3ok_any _ _).mono ?_; rintro e w' ⟨rfl, rfl⟩) | (go_at_call 55; refine (in_any _ _ _ _).mono ?_; rintro e w' ⟨rfl, rfl⟩))
      go_ret
      exact ⟨ret_bool (by rw [HE.out]; first | (simp_all; done) | (simp_all; omega)), by go_grown⟩
  · replace h1 := Bool.eq_false_iff.2 h1
    go_enter Try.func37, Try.ntmps37
    go_wp2_with (first | (go_at_call 56; refine (l3ok_any _ _).mono ?_; rintro e w' ⟨rfl, rfl⟩) | (go_at_call 55; refine (in_any _ _ _ _).mono ?_; rintro e w' ⟨rfl, rfl⟩))
    go_ret
    exact ⟨ret_bool (by rw [HE.out]; first | (simp_all; done) | (simp_all; omega)), by go_grown⟩
set_option maxHeartbeats 800000 in
theorem ipart_at (A : Option Addr) (n c : Nat) (l : List Dat) (t : Int) (w : World) (hs : Sl w w.heap.size A (dats l)) (hn : l.length = n) (hm : n ≤ 9223372036854775807) :
    Calls Try.prog 44 #[.slice A n c, .int .i64 t] w fun e w' => e = .returned (.int .i64 (atK t l 0)) ∧ Below w.heap.size w w' := by
  have HS := Lib.hid hs; have HN := Lib.hid hn; clear hs hn
  go_enter Try.func44, Try.ntmps44
  go_wp2
  go_loopw [9] (fun i wr => ∃ k : Nat, k ≤ n ∧ i = .int .i64 k ∧ Hid (atK t l 0 = atK t (l.drop k) k) ∧ Below w.heap.size w wr) (fun i _ => n - (intOf i).toNat)
  case atStart => exact ⟨0, by omega, rfl, Lib.hid rfl, Below.refl _ _⟩
  case round =>
    obtain ⟨k, hk, rfl, ha, hb⟩ := hrel
    have B := Lib.hid hb
    clear hb
    by_cases hlt : k < n
    · obtain ⟨d, hd⟩ := fget_of_lt (xs := l) (k := k) (by rw [HN.out]; exact hlt)
      obtain ⟨b, off, rfl, hbl, ⟨e0, e1, e2, e3, e4, e5, e6⟩⟩ := dats_elem ((HS.out.below B.out (Nat.le_refl _)).more B.out.size) hd
      have HA := Lib.hid (ha.out.trans (atK_drop hd t))
      obtain ⟨d0, d1, d2, d3, d4, d5, d6⟩ := d
      change wr.cell? _ = some (.int .i64 d0) at e0
      change wr.cell? _ = some (.int .i64 d1) at e1
      change wr.cell? _ = some (.int .i64 d2) at e2
      change wr.cell? _ = some (.bool d3) at e3
      change wr.cell? _ = some (.bool d4) at e4
      change wr.cell? _ = some (.bool d5) at e5
      change wr.cell? _ = some (.string d6) at e6
      clear ha hd
      by_cases hin : d0 = t
      · have HA2 := Lib.hid (HA.out.trans (if_pos hin))
        clear HA
        subst hin
        go_wp2
        go_ret
        exact ⟨ret_int HA2.out.symm, B.out.alloc B.out.size _⟩
      · have HA2 := Lib.hid (HA.out.trans (if_neg hin))
        clear HA
        have en : (d0 == t) = false := by simpa using hin
        clear hin
        go_wp2
        go_roundw
        case rel => exact ⟨k + 1, by omega, by go_num, HA2, B.out.alloc B.out.size _⟩
        case measure => simp [intOf]; omega
    · have HA2 := Lib.hid (ha.out.trans (atK_end (by rw [HN.out]; omega) t))
      clear ha
      go_wp2
      go_ret
      exact ⟨ret_int HA2.out.symm, B.out⟩
set_option maxHeartbeats 800000 in
theorem spart_at (A : Option Addr) (n c : Nat) (l : List Dat) (t : Int) (w : World) (hs : Sl w w.heap.size A (dats l)) (hn : l.length = n) (hm : n ≤ 9223372036854775807) :
    Calls Try.prog 38 #[.slice A n c, .int .i64 t] w fun e w' => e = .returned (.int .i64 (atK t l 0)) ∧ Below w.heap.size w w' := by
  have HS := Lib.hid hs; have HN := Lib.hid hn; clear hs hn
  go_enter Try.func38, Try.ntmps38
  go_wp2
  go_loopw [5] (fun i wr => ∃ k : Nat, k ≤ n ∧ i = .int .i64 k ∧ Hid (atK t l 0 = atK t (l.drop k) k) ∧ Below w.heap.size w wr) (fun i _ => n - (intOf i).toNat)
  case atStart => exact ⟨0, by omega, rfl, Lib.hid rfl, Below.refl _ _⟩
  case round =>
    obtain ⟨k, hk, rfl, ha, hb⟩ := hrel
    have B := Lib.hid hb
    clear hb
    by_cases hlt : k < n
    · obtain ⟨d, hd⟩ := fget_of_lt (xs := l) (k := k) (by rw [HN.out]; exact hlt)
      obtain ⟨b, off, rfl, hbl, ⟨e0, _, _, _, _, _, _⟩⟩ := dats_elem ((HS.out.below B.out (Nat.le_refl _)).more B.out.size) hd
      have HA := Lib.hid (ha.out.trans (atK_drop hd t))
      obtain ⟨d0, d1, d2, d3, d4, d5, d6⟩ := d
      change wr.cell? _ = some (.int .i64 d0) at e0
      clear ha hd
      by_cases hin : d0 = t
      · have HA2 := Lib.hid (HA.out.trans (if_pos hin))
        clear HA
        subst hin
        go_wp2
        go_ret
        exact ⟨ret_int HA2.out.symm, B.out⟩
      · have HA2 := Lib.hid (HA.out.trans (if_neg hin))
        clear HA
        have en : (d0 == t) = false := by simpa using hin
        clear hin
        go_wp2
        go_roundw
        case rel => exact ⟨k + 1, by omega, by go_num, HA2, B.out⟩
        case measure => simp [intOf]; omega
    · have HA2 := Lib.hid (ha.out.trans (atK_end (by rw [HN.out]; omega) t))
      clear ha
      go_wp2
      go_ret
      exact ⟨ret_int HA2.out.symm, B.out⟩
end Go.Proofs.Ytkhaodbcnnlhaaa
