/-
  What SeenHas returns, in the program and in the reference; membership. Conditions: the list can be read.
-/
import Derived.Test.YtglebkjhfofkcaaSeenP
import Derived.Test.YtglebkjhfofkcaaSeenN
import Derived.Test.YtglebkjhfofkcaaNum2
namespace Go.Proofs.Ytglebkjhfofkcaa
open Go.ChangeShapes Go.WideShapes Go.ChangeAt Go.RowKit
set_option linter.unusedVariables false

theorem l21has_any (A : Option Addr) (n c : Nat) (zs : List Int) (x : Int) (w : World) (hs : Sl w w.heap.size A (ints zs)) (hn : zs.length = n) (hm : n ≤ 9223372036854775807) :
    Calls Try.prog 65 #[.slice A n c, .int .i64 x] w fun e w' => e = .returned (.bool (hasB zs x)) ∧ w = w' := by
  have HS := Lib.hid hs; have HN := Lib.hid hn; clear hs hn
  go_enter Try.func65, Try.ntmps65
  go_wp2
  go_loop [5] (fun i => ∃ (k : Nat), k ≤ n ∧ i = .int .i64 k ∧ Hid (hasB zs x = hasB (zs.drop k) x)) (fun i => n - (intOf i).toNat)
  case atStart => exact ⟨0, by omega, rfl, Lib.hid rfl⟩
  case round =>
    obtain ⟨k, hk, rfl, ha⟩ := hrel
    by_cases hlt : k < n
    · obtain ⟨z, hz⟩ := get_of_lt (xs := zs) (k := k) (by rw [HN.out]; exact hlt)
      obtain ⟨b, off, rfl, hb, hc⟩ := HS.out.at_ (j := k) (by rw [ints_len, HN.out]; exact hlt)
      have e1 := hc k _ (ints_at_ hz)
      have HA := Lib.hid (ha.out.trans (hasB_drop hz x))
      clear ha hc hz
      by_cases hx : z = x
      · have hx' : (z == x) = true := by simpa using hx
        have HA2 := Lib.hid (HA.out.trans (by rw [hx', Bool.true_or]) : hasB zs x = true)
        clear hx HA
        go_wp2
        go_ret
        exact ⟨ret_bool HA2.out.symm, rfl⟩
      · have hx' : (z == x) = false := by simpa using hx
        have HA2 := Lib.hid (HA.out.trans (by rw [hx', Bool.false_or]) : hasB zs x = hasB (zs.drop (k + 1)) x)
        clear hx HA
        go_wp2
        go_round
        case rel => exact ⟨k + 1, by omega, by go_num, HA2⟩
        case measure => simp [intOf]; omega
    · have HA2 := Lib.hid (ha.out.trans (hasB_end (by rw [HN.out]; omega) x))
      clear ha
      go_wp2
      go_ret
      exact ⟨ret_bool HA2.out.symm, rfl⟩
theorem hasint_any (A : Option Addr) (n c : Nat) (zs : List Int) (x : Int) (w : World) (hs : Sl w w.heap.size A (ints zs)) (hn : zs.length = n) (hm : n ≤ 9223372036854775807) :
    Calls Try.prog 47 #[.slice A n c, .int .i64 x] w fun e w' => e = .returned (.bool (hasB zs x)) ∧ w = w' := by
  have HS := Lib.hid hs; have HN := Lib.hid hn; clear hs hn
  go_enter Try.func47, Try.ntmps47
  go_wp2
  go_loop [5] (fun i => ∃ (k : Nat), k ≤ n ∧ i = .int .i64 k ∧ Hid (hasB zs x = hasB (zs.drop k) x)) (fun i => n - (intOf i).toNat)
  case atStart => exact ⟨0, by omega, rfl, Lib.hid rfl⟩
  case round =>
    obtain ⟨k, hk, rfl, ha⟩ := hrel
    by_cases hlt : k < n
    · obtain ⟨z, hz⟩ := get_of_lt (xs := zs) (k := k) (by rw [HN.out]; exact hlt)
      obtain ⟨b, off, rfl, hb, hc⟩ := HS.out.at_ (j := k) (by rw [ints_len, HN.out]; exact hlt)
      have e1 := hc k _ (ints_at_ hz)
      have HA := Lib.hid (ha.out.trans (hasB_drop hz x))
      clear ha hc hz
      by_cases hx : z = x
      · have hx' : (z == x) = true := by simpa using hx
        have HA2 := Lib.hid (HA.out.trans (by rw [hx', Bool.true_or]) : hasB zs x = true)
        clear hx HA
        go_wp2
        go_ret
        exact ⟨ret_bool HA2.out.symm, rfl⟩
      · have hx' : (z == x) = false := by simpa using hx
        have HA2 := Lib.hid (HA.out.trans (by rw [hx', Bool.false_or]) : hasB zs x = hasB (zs.drop (k + 1)) x)
        clear hx HA
        go_wp2
        go_round
        case rel => exact ⟨k + 1, by omega, by go_num, HA2⟩
        case measure => simp [intOf]; omega
    · have HA2 := Lib.hid (ha.out.trans (hasB_end (by rw [HN.out]; omega) x))
      clear ha
      go_wp2
      go_ret
      exact ⟨ret_bool HA2.out.symm, rfl⟩

theorem seenHas_bad {cum : Int} {zs : List Int} {tsn : Int} (h : seenOk cum zs = false ∨ okB tsn = false) : seenHas cum zs tsn = false := by
  unfold seenHas
  rcases h with h | h <;> simp [h]
theorem seenHas_ok {cum : Int} {zs : List Int} {tsn : Int} (h1 : seenOk cum zs = true) (h2 : okB tsn = true) : seenHas cum zs tsn = (decide (sdiff cum tsn ≤ 0) || hasB zs (sdiff cum tsn)) := by
  unfold seenHas
  rw [h1, h2]
  rfl
theorem sseen_has (cum : Int) (A : Option Addr) (n c : Nat) (zs : List Int) (tsn : Int) (w : World) (hs : Sl w w.heap.size A (ints zs)) (hn : zs.length = n) (hm : n ≤ 9223372036854775807) :
    Calls Try.prog 28 #[.agg #[.int .i64 cum, .slice A n c], .int .i64 tsn] w fun e w' => e = .returned (.bool (seenHas cum zs tsn)) ∧ Below w.heap.size w w' := by
  have HS := Lib.hid hs; have HN := Lib.hid hn; clear hs hn
  by_cases h1 : seenOk cum zs = true
  · by_cases h2 : okB tsn = true
    · have hc := (seenOk_true h1).2
      have hr := Lib.hid (seenHas_ok h1 h2)
      by_cases h3 : sdiff cum tsn ≤ 0
      · go_enter Try.func28, Try.ntmps28
        go_wp2_with fail
        refine (sseen_valid _ _ _ _ zs _ ((HS.out.alloc (Nat.le_refl _) _).more (by simp)) HN.out hm).mono ?_
        rintro e w1 ⟨rfl, b1'⟩
        obtain ⟨q1, z1, b1⟩ := boxed b1'
        have x0 := q1.get 0 rfl
        have x1 := q1.get 1 rfl
        have B1 := Lib.hid b1
        clear b1 b1' q1
        go_wp2_with (first | (go_at_call 60; refine (l3ok_any _ _).mono ?_; rintro e w' ⟨rfl, rfl⟩) | (go_at_call 64; refine (l3diff_any _ _ hc h2 _).mono ?_; rintro e w' ⟨rfl, rfl⟩) | (go_at_call 65; refine (l21has_any _ _ _ zs _ _ ((HS.out.below B1.out (Nat.le_refl _)).more B1.out.size) HN.out hm).mono ?_; rintro e w' ⟨rfl, rfl⟩))
        go_ret
        exact ⟨ret_bool (by refine Eq.trans ?_ hr.out.symm; rw [decide_eq_true h3, Bool.true_or]), B1.out⟩
      · go_enter Try.func28, Try.ntmps28
        go_wp2_with fail
        refine (sseen_valid _ _ _ _ zs _ ((HS.out.alloc (Nat.le_refl _) _).more (by simp)) HN.out hm).mono ?_
        rintro e w1 ⟨rfl, b1'⟩
        obtain ⟨q1, z1, b1⟩ := boxed b1'
        have x0 := q1.get 0 rfl
        have x1 := q1.get 1 rfl
        have B1 := Lib.hid b1
        clear b1 b1' q1
        go_wp2_with (first | (go_at_call 60; refine (l3ok_any _ _).mono ?_; rintro e w' ⟨rfl, rfl⟩) | (go_at_call 64; refine (l3diff_any _ _ hc h2 _).mono ?_; rintro e w' ⟨rfl, rfl⟩) | (go_at_call 65; refine (l21has_any _ _ _ zs _ _ ((HS.out.below B1.out (Nat.le_refl _)).more B1.out.size) HN.out hm).mono ?_; rintro e w' ⟨rfl, rfl⟩))
        go_ret
        exact ⟨ret_bool (by refine Eq.trans ?_ hr.out.symm; rw [decide_eq_false (show ¬ sdiff cum tsn ≤ 0 by omega), Bool.false_or]), B1.out⟩
    · have h2 : okB tsn = false := by simpa using h2
      have hr := Lib.hid (seenHas_bad (cum := cum) (zs := zs) (.inr h2))
      go_enter Try.func28, Try.ntmps28
      go_wp2_with fail
      refine (sseen_valid _ _ _ _ zs _ ((HS.out.alloc (Nat.le_refl _) _).more (by simp)) HN.out hm).mono ?_
      rintro e w1 ⟨rfl, b1'⟩
      obtain ⟨q1, z1, b1⟩ := boxed b1'
      go_wp2_with (go_at_call 60; refine (l3ok_any _ _).mono ?_; rintro e w' ⟨rfl, rfl⟩)
      go_ret
      exact ⟨ret_bool hr.out.symm, b1⟩
  · have h1 : seenOk cum zs = false := by simpa using h1
    have hr := Lib.hid (seenHas_bad (tsn := tsn) (.inl h1))
    go_enter Try.func28, Try.ntmps28
    go_wp2_with fail
    refine (sseen_valid _ _ _ _ zs _ ((HS.out.alloc (Nat.le_refl _) _).more (by simp)) HN.out hm).mono ?_
    rintro e w1 ⟨rfl, b1'⟩
    obtain ⟨q1, z1, b1⟩ := boxed b1'
    go_wp2
    go_ret
    exact ⟨ret_bool hr.out.symm, b1⟩
theorem iseen_has (cum : Int) (A : Option Addr) (n c : Nat) (zs : List Int) (tsn : Int) (w : World) (hs : Sl w w.heap.size A (ints zs)) (hn : zs.length = n) (hm : n ≤ 9223372036854775807) :
    Calls Try.prog 24 #[.agg #[.int .i64 cum, .slice A n c], .int .i64 tsn] w fun e w' => e = .returned (.bool (seenHas cum zs tsn)) ∧ Below w.heap.size w w' := by
  have HS := Lib.hid hs; have HN := Lib.hid hn; clear hs hn
  by_cases h1 : seenOk cum zs = true
  · by_cases h2 : okB tsn = true
    · have hc := (seenOk_true h1).2
      have hr := Lib.hid (seenHas_ok h1 h2)
      by_cases h3 : sdiff cum tsn ≤ 0
      · go_enter Try.func24, Try.ntmps24
        go_wp2_with fail
        refine (iseen_valid _ _ _ _ zs _ ((HS.out.alloc (Nat.le_refl _) _).more (by simp)) HN.out hm).mono ?_
        rintro e w1 ⟨rfl, b1'⟩
        obtain ⟨q1, z1, b1⟩ := boxed b1'
        have x0 := q1.get 0 rfl
        have x1 := q1.get 1 rfl
        have B1 := Lib.hid b1
        clear b1 b1' q1
        go_wp2_with (first | (go_at_call 59; refine (ok_any _ _).mono ?_; rintro e w' ⟨rfl, rfl⟩) | (go_at_call 46; refine (idiff_ok _ _ hc h2 _).mono ?_; rintro e w' ⟨rfl, rfl⟩))
        go_ret
        exact ⟨ret_bool (by refine Eq.trans ?_ hr.out.symm; rw [decide_eq_true h3, Bool.true_or]), B1.out⟩
      · go_enter Try.func24, Try.ntmps24
        go_wp2_with fail
        refine (iseen_valid _ _ _ _ zs _ ((HS.out.alloc (Nat.le_refl _) _).more (by simp)) HN.out hm).mono ?_
        rintro e w1 ⟨rfl, b1'⟩
        obtain ⟨q1, z1, b1⟩ := boxed b1'
        have x0 := q1.get 0 rfl
        have x1 := q1.get 1 rfl
        have B1 := Lib.hid b1
        clear b1 b1' q1
        go_wp2_with (first | (go_at_call 59; refine (ok_any _ _).mono ?_; rintro e w' ⟨rfl, rfl⟩) | (go_at_call 46; refine (idiff_ok _ _ hc h2 _).mono ?_; rintro e w' ⟨rfl, rfl⟩))
        have HR := Lib.hid (hr.out.trans (by rw [decide_eq_false (show ¬ sdiff cum tsn ≤ 0 by omega), Bool.false_or]) : seenHas cum zs tsn = hasB zs (sdiff cum tsn))
        have HS1 := Lib.hid ((HS.out.below B1.out (Nat.le_refl _)).more B1.out.size)
        clear hr HS
        go_loop [25] (fun i => ∃ (k : Nat), k ≤ n ∧ i = .int .i64 k ∧ Hid (hasB zs (sdiff cum tsn) = hasB (zs.drop k) (sdiff cum tsn))) (fun i => n - (intOf i).toNat)
        case atStart => exact ⟨0, by omega, rfl, Lib.hid rfl⟩
        case round =>
          obtain ⟨k, hk, rfl, ha⟩ := hrel
          by_cases hlt : k < n
          · obtain ⟨z, hz⟩ := get_of_lt (xs := zs) (k := k) (by rw [HN.out]; exact hlt)
            obtain ⟨b, off, rfl, hb, hc'⟩ := HS1.out.at_ (j := k) (by rw [ints_len, HN.out]; exact hlt)
            have e1 := hc' k _ (ints_at_ hz)
            have HA := Lib.hid (ha.out.trans (hasB_drop hz (sdiff cum tsn)))
            clear ha hc' hz
            by_cases hx : z = sdiff cum tsn
            · have hx' : (z == sdiff cum tsn) = true := by simpa using hx
              have HA2 := Lib.hid (HA.out.trans (by rw [hx', Bool.true_or]) : hasB zs (sdiff cum tsn) = true)
              clear hx HA
              go_wp2
              go_ret
              exact ⟨ret_bool (by rw [HR.out, HA2.out]), B1.out⟩
            · have hx' : (z == sdiff cum tsn) = false := by simpa using hx
              have HA2 := Lib.hid (HA.out.trans (by rw [hx', Bool.false_or]) : hasB zs (sdiff cum tsn) = hasB (zs.drop (k + 1)) (sdiff cum tsn))
              clear hx HA
              go_wp2
              go_round
              case rel => exact ⟨k + 1, by omega, by go_num, HA2⟩
              case measure => simp [intOf]; omega
          · have HA2 := Lib.hid (ha.out.trans (hasB_end (by rw [HN.out]; omega) (sdiff cum tsn)))
            clear ha
            go_wp2
            go_ret
            exact ⟨ret_bool (by rw [HR.out, HA2.out]), B1.out⟩
    · have h2 : okB tsn = false := by simpa using h2
      have hr := Lib.hid (seenHas_bad (cum := cum) (zs := zs) (.inr h2))
      go_enter Try.func24, Try.ntmps24
      go_wp2_with fail
      refine (iseen_valid _ _ _ _ zs _ ((HS.out.alloc (Nat.le_refl _) _).more (by simp)) HN.out hm).mono ?_
      rintro e w1 ⟨rfl, b1'⟩
      obtain ⟨q1, z1, b1⟩ := boxed b1'
      go_wp2_with (go_at_call 59; refine (ok_any _ _).mono ?_; rintro e w' ⟨rfl, rfl⟩)
      go_ret
      exact ⟨ret_bool hr.out.symm, b1⟩
  · have h1 : seenOk cum zs = false := by simpa using h1
    have hr := Lib.hid (seenHas_bad (tsn := tsn) (.inl h1))
    go_enter Try.func24, Try.ntmps24
    go_wp2_with fail
    refine (iseen_valid _ _ _ _ zs _ ((HS.out.alloc (Nat.le_refl _) _).more (by simp)) HN.out hm).mono ?_
    rintro e w1 ⟨rfl, b1'⟩
    obtain ⟨q1, z1, b1⟩ := boxed b1'
    go_wp2
    go_ret
    exact ⟨ret_bool hr.out.symm, b1⟩
theorem iseen_has_eq {cum : Int} {zs : List Int} {tsn : Int} {v : Bool} (hv : seenHas cum zs tsn = v) (A : Option Addr) (n c : Nat) (w : World) (hs : Sl w w.heap.size A (ints zs)) (hn : zs.length = n) (hm : n ≤ 9223372036854775807) :
    Calls Try.prog 24 #[.agg #[.int .i64 cum, .slice A n c], .int .i64 tsn] w fun e w' => e = .returned (.bool v) ∧ Below w.heap.size w w' :=
  (iseen_has cum A n c zs tsn w hs hn hm).mono fun _ _ ⟨he, hb⟩ => ⟨by rw [he, hv], hb⟩
theorem iseen_valid_eq {cum : Int} {zs : List Int} {v : Bool} (hv : seenOk cum zs = v) (A : Option Addr) (n c : Nat) (w : World) (hs : Sl w w.heap.size A (ints zs)) (hn : zs.length = n) (hm : n ≤ 9223372036854775807) :
    Calls Try.prog 26 #[.agg #[.int .i64 cum, .slice A n c]] w fun e w' => e = .returned (.bool v) ∧ Below w.heap.size w w' :=
  (iseen_valid cum A n c zs w hs hn hm).mono fun _ _ ⟨he, hb⟩ => ⟨by rw [he, hv], hb⟩
end Go.Proofs.Ytglebkjhfofkcaa
