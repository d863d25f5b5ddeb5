/-
  When a packet is valid, in the program and in the reference. Conditions: the chunks can be read.
-/
import Derived.Test.YtlemdagiamnphaaChkV
namespace Go.Proofs.Ytlemdagiamnphaa
open Go.ChangeShapes Go.WideShapes Go.ChangeAt Go.RowKit
set_option linter.unusedVariables false
set_option linter.unusedSimpArgs false

abbrev packV (f t g : Int) (A : Option Addr) (n c : Nat) : Value := .agg #[.int .i64 f, .int .i64 t, .int .i64 g, .slice A n c]
theorem packB_no {f t g : Int} {l : List Chk} (h : ¬ (1 ≤ f ∧ f ≤ 65535 ∧ 1 ≤ t ∧ t ≤ 65535 ∧ f ≠ t ∧ 0 ≤ g ∧ g ≤ 4294967295 ∧ 1 ≤ l.length ∧ l.length ≤ 4)) : packB f t g l = false := by
  unfold packB headB
  rw [decide_eq_false h]
  rfl
theorem packB_all {f t g : Int} {l : List Chk} (h : 1 ≤ f ∧ f ≤ 65535 ∧ 1 ≤ t ∧ t ≤ 65535 ∧ f ≠ t ∧ 0 ≤ g ∧ g ≤ 4294967295 ∧ 1 ≤ l.length ∧ l.length ≤ 4) : packB f t g l = allB l := by
  unfold packB headB
  rw [decide_eq_true h]
  rfl
theorem packB_inv {f t g : Int} {l : List Chk} (h : allB l = false) : packB f t g l = false := by
  unfold packB
  rw [h, Bool.and_false]
set_option maxHeartbeats 1600000 in
theorem ipack_valid (f t g : Int) (A : Option Addr) (n c : Nat) (l : List Chk) (w : World) (hs : Sl w w.heap.size A (chks l)) (hn : l.length = n) (hm : n ≤ 9223372036854775807) (hb : Bods l) :
    Calls Try.prog 30 #[packV f t g A n c] w fun e w' => e = .returned (.bool (packB f t g l)) ∧ Below w.heap.size w w' := by
  have HS := Lib.hid hs; have HN := Lib.hid hn; have HB := Lib.hid hb; clear hs hn hb
  have HNO := Lib.hid (fun h => packB_no (f := f) (t := t) (g := g) (l := l) h)
  by_cases h1 : f < 1
  · have HF := Lib.hid (HNO.out (by have := HN.out; omega))
    go_enter Try.func30, Try.ntmps30
    go_wp2
    go_ret
    exact ⟨by rw [HF.out]; rfl, by go_grown⟩
  by_cases h2 : 65535 < f
  · have HF := Lib.hid (HNO.out (by have := HN.out; omega))
    go_enter Try.func30, Try.ntmps30
    go_wp2
    go_ret
    exact ⟨by rw [HF.out]; rfl, by go_grown⟩
  by_cases h3 : t < 1
  · have HF := Lib.hid (HNO.out (by have := HN.out; omega))
    go_enter Try.func30, Try.ntmps30
    go_wp2
    go_ret
    exact ⟨by rw [HF.out]; rfl, by go_grown⟩
  by_cases h4 : 65535 < t
  · have HF := Lib.hid (HNO.out (by have := HN.out; omega))
    go_enter Try.func30, Try.ntmps30
    go_wp2
    go_ret
    exact ⟨by rw [HF.out]; rfl, by go_grown⟩
  by_cases h5 : f = t
  · subst h5
    have HF := Lib.hid (HNO.out (fun hh => hh.2.2.2.2.1 rfl))
    go_enter Try.func30, Try.ntmps30
    go_wp2
    go_ret
    exact ⟨by rw [HF.out]; rfl, by go_grown⟩
  have h5b : (f == t) = false := by simpa using h5
  by_cases h6 : g < 0
  · have HF := Lib.hid (HNO.out (by have := HN.out; omega))
    go_enter Try.func30, Try.ntmps30
    go_wp2
    go_ret
    exact ⟨by rw [HF.out]; rfl, by go_grown⟩
  by_cases h7 : 4294967295 < g
  · have HF := Lib.hid (HNO.out (by have := HN.out; omega))
    go_enter Try.func30, Try.ntmps30
    go_wp2
    go_ret
    exact ⟨by rw [HF.out]; rfl, by go_grown⟩
  by_cases h8 : n < 1
  · have HF := Lib.hid (HNO.out (by have := HN.out; omega))
    go_enter Try.func30, Try.ntmps30
    go_wp2
    go_ret
    exact ⟨by rw [HF.out]; rfl, by go_grown⟩
  by_cases h9 : 4 < n
  · have HF := Lib.hid (HNO.out (by have := HN.out; omega))
    go_enter Try.func30, Try.ntmps30
    go_wp2
    go_ret
    exact ⟨by rw [HF.out]; rfl, by go_grown⟩
  have HAL := Lib.hid (packB_all (f := f) (t := t) (g := g) (l := l) (by have := HN.out; omega))
  clear HNO
  go_enter Try.func30, Try.ntmps30
  go_wp2
  go_loopw [55] (fun i wr => ∃ k : Nat, k ≤ n ∧ i = .int .i64 k ∧ Hid (allB l = allB (l.drop k)) ∧ Below w.heap.size w wr) (fun i _ => n - (intOf i).toNat)
  case atStart => exact ⟨0, by omega, rfl, Lib.hid rfl, by go_grown⟩
  case round =>
    obtain ⟨k, hk, rfl, hA, hb⟩ := hrel
    have BR := Lib.hid hb
    clear hb
    by_cases hlt : k < n
    · obtain ⟨r, hr⟩ := fget_of_lt (xs := l) (k := k) (by rw [HN.out]; exact hlt)
      obtain ⟨b, off, rfl, hbl, e1, e2, e3⟩ := chks_elem ((HS.out.below BR.out (Nat.le_refl _)).more BR.out.size) hr
      have hsz := HB.out r (List.mem_of_getElem? hr)
      have HA := Lib.hid (hA.out.trans (allB_drop hr))
      obtain ⟨x, y, z⟩ := r
      change z.size ≤ 9223372036854775807 at hsz
      clear hr hA
      by_cases hc : chunkB (x, y, z) = true
      · have HA2 := Lib.hid (HA.out.trans (by rw [hc]; rfl) : allB l = allB (l.drop (k + 1)))
        clear HA
        go_wp2_with fail
        refine (ichunk_valid x y z hsz _).mono ?_
        rw [hc]
        rintro e w2 ⟨rfl, b2'⟩
        obtain ⟨q2, z2, b2⟩ := boxed b2'
        have B2 := Lib.hid (bstep BR.out b2 BR.out.size)
        clear b2 b2' q2
        go_wp2
        go_roundw
        case rel => exact ⟨k + 1, by omega, by go_num, HA2, B2.out⟩
        case measure => simp [intOf]; omega
      · have hc : chunkB (x, y, z) = false := by simpa using hc
        have HA2 := Lib.hid (HAL.out.trans (HA.out.trans (by rw [hc]; rfl)) : packB f t g l = false)
        clear HA
        go_wp2_with fail
        refine (ichunk_valid x y z hsz _).mono ?_
        rw [hc]
        rintro e w2 ⟨rfl, b2'⟩
        obtain ⟨q2, z2, b2⟩ := boxed b2'
        have B2 := Lib.hid (bstep BR.out b2 BR.out.size)
        clear b2 b2' q2
        go_wp2
        go_ret
        exact ⟨by rw [HA2.out]; rfl, B2.out⟩
    · have HA2 := Lib.hid (HAL.out.trans (hA.out.trans (allB_end (by rw [HN.out]; omega))) : packB f t g l = true)
      clear hA
      go_wp2
      go_ret
      exact ⟨by rw [HA2.out]; rfl, BR.out⟩
set_option maxHeartbeats 1600000 in
theorem spack_valid (f t g : Int) (A : Option Addr) (n c : Nat) (l : List Chk) (w : World) (hs : Sl w w.heap.size A (chks l)) (hn : l.length = n) (hm : n ≤ 9223372036854775807) (hb : Bods l) :
    Calls Try.prog 33 #[packV f t g A n c] w fun e w' => e = .returned (.bool (packB f t g l)) ∧ Below w.heap.size w w' := by
  have HS := Lib.hid hs; have HN := Lib.hid hn; have HB := Lib.hid hb; clear hs hn hb
  go_enter Try.func33, Try.ntmps33
  go_wp2
  go_loopw [3] (fun i wr => ∃ k : Nat, k ≤ n ∧ i = .int .i64 k ∧ Hid (allB l = allB (l.drop k)) ∧ Blk wr w.heap.size #[.int .i64 f, .int .i64 t, .int .i64 g, .slice A n c] 26 ∧ Below w.heap.size w wr) (fun i _ => n - (intOf i).toNat)
  case atStart => exact ⟨0, by omega, rfl, Lib.hid rfl, Blk.new w _ _, by go_grown⟩
  case round =>
    obtain ⟨k, hk, rfl, hA, q, hb⟩ := hrel
    have BR := Lib.hid hb
    have Q := Lib.hid q
    have x0 : wr.cell? ⟨w.heap.size, 0, none⟩ = some (.int .i64 f) := q.get 0 rfl
    have x1 : wr.cell? ⟨w.heap.size, 1, none⟩ = some (.int .i64 t) := q.get 1 rfl
    have x2 : wr.cell? ⟨w.heap.size, 2, none⟩ = some (.int .i64 g) := q.get 2 rfl
    have x3 : wr.cell? ⟨w.heap.size, 3, none⟩ = some (.slice A n c) := q.get 3 rfl
    have hql := q.lt
    clear hb q
    by_cases hlt : k < n
    · obtain ⟨r, hr⟩ := fget_of_lt (xs := l) (k := k) (by rw [HN.out]; exact hlt)
      obtain ⟨b, off, rfl, hbl, e1, e2, e3⟩ := chks_elem ((HS.out.below BR.out (Nat.le_refl _)).more BR.out.size) hr
      have hsz := HB.out r (List.mem_of_getElem? hr)
      have HA := Lib.hid (hA.out.trans (allB_drop hr))
      obtain ⟨x, y, z⟩ := r
      change z.size ≤ 9223372036854775807 at hsz
      have hk0 : (0 : Int) ≤ (k : Int) := by omega
      have hk1 : (k : Int) < (n : Int) := by omega
      clear hr hA
      by_cases hc : chunkB (x, y, z) = true
      · have HA2 := Lib.hid (HA.out.trans (by rw [hc]; rfl) : allB l = allB (l.drop (k + 1)))
        have SV := Lib.hid (schunk_valid x y z hsz)
        rw [hc] at SV
        clear HA hc
        go_wp2_with fail
        refine (SV.out _).mono ?_
        rintro e w2 ⟨rfl, b2⟩
        have Q2 := Lib.hid (Q.out.below b2 Q.out.lt)
        have B2 := Lib.hid (bstep BR.out b2 BR.out.size)
        clear b2
        all_goals
          go_wp2
          go_roundw
          case rel => exact ⟨k + 1, by omega, by go_num, HA2, Q2.out, B2.out⟩
          case measure => simp [intOf]; omega
      · have hc : chunkB (x, y, z) = false := by simpa using hc
        have HA2 := Lib.hid (packB_inv (f := f) (t := t) (g := g) (HA.out.trans (by rw [hc]; rfl) : allB l = false))
        have SV := Lib.hid (schunk_valid x y z hsz)
        rw [hc] at SV
        clear HA hc
        go_wp2_with fail
        refine (SV.out _).mono ?_
        rintro e w2 ⟨rfl, b2⟩
        have Q2 := Lib.hid (Q.out.below b2 Q.out.lt)
        have B2 := Lib.hid (bstep BR.out b2 BR.out.size)
        clear b2
        all_goals
          go_wp2
          go_ret
          exact ⟨by rw [HA2.out]; rfl, B2.out⟩
    · have HA2 := Lib.hid (hA.out.trans (allB_end (by rw [HN.out]; omega)))
      clear hA
      by_cases h1 : inB f 1 65535 = true
      case neg =>
        have h1 : inB f 1 65535 = false := by simpa using h1
        have hx := inB_false h1
        have HF := Lib.hid (packB_no (f := f) (t := t) (g := g) (l := l) (by have := HN.out; omega))
        go_wp2_with (go_at_call 49; refine (in_any _ _ _ _).mono ?_; rintro e w' ⟨rfl, rfl⟩)
        go_ret
        exact ⟨ret_bool (by rw [HF.out]; try simp), BR.out⟩
      by_cases h2 : inB t 1 65535 = true
      case neg =>
        have h2 : inB t 1 65535 = false := by simpa using h2
        have hx := inB_false h2
        have HF := Lib.hid (packB_no (f := f) (t := t) (g := g) (l := l) (by have := HN.out; omega))
        go_wp2_with (go_at_call 49; refine (in_any _ _ _ _).mono ?_; rintro e w' ⟨rfl, rfl⟩)
        go_ret
        exact ⟨ret_bool (by rw [HF.out]; try simp [*]), BR.out⟩
      by_cases h3 : f = t
      · subst h3
        have HF := Lib.hid (packB_no (f := f) (t := f) (g := g) (l := l) (fun hh => hh.2.2.2.2.1 rfl))
        go_wp2_with (go_at_call 49; refine (in_any _ _ _ _).mono ?_; rintro e w' ⟨rfl, rfl⟩)
        go_ret
        exact ⟨ret_bool (by rw [HF.out]; try simp), BR.out⟩
      have h3b : (f == t) = false := by simpa using h3
      by_cases h4 : inB g 0 4294967295 = true
      case neg =>
        have h4 : inB g 0 4294967295 = false := by simpa using h4
        have hx := inB_false h4
        have HF := Lib.hid (packB_no (f := f) (t := t) (g := g) (l := l) (by have := HN.out; omega))
        go_wp2_with (go_at_call 49; refine (in_any _ _ _ _).mono ?_; rintro e w' ⟨rfl, rfl⟩)
        go_ret
        exact ⟨ret_bool (by rw [HF.out]; try simp [*]), BR.out⟩
      by_cases h5 : inB (n : Int) 1 4 = true
      case neg =>
        have h5 : inB (n : Int) 1 4 = false := by simpa using h5
        have hx := inB_false h5
        have HF := Lib.hid (packB_no (f := f) (t := t) (g := g) (l := l) (by have := HN.out; omega))
        go_wp2_with (go_at_call 49; refine (in_any _ _ _ _).mono ?_; rintro e w' ⟨rfl, rfl⟩)
        go_ret
        exact ⟨ret_bool (by rw [HF.out]; try simp [*]), BR.out⟩
      obtain ⟨a1, a2⟩ := inB_true h1
      obtain ⟨a3, a4⟩ := inB_true h2
      obtain ⟨a5, a6⟩ := inB_true h4
      obtain ⟨a7, a8⟩ := inB_true h5
      have HF := Lib.hid ((packB_all (f := f) (t := t) (g := g) (l := l) (by have := HN.out; omega)).trans HA2.out)
      go_wp2_with (go_at_call 49; refine (in_any _ _ _ _).mono ?_; rintro e w' ⟨rfl, rfl⟩)
      go_ret
      exact ⟨ret_bool (by rw [HF.out]; try simp [*]), BR.out⟩
      
end Go.Proofs.Ytlemdagiamnphaa
