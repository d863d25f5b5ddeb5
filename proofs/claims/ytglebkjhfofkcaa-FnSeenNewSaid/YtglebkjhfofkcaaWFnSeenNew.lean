/-
  The walk of 'FnSeenNew'. Condition: the code is a slice of bytes.
-/
import Derived.Test.YtglebkjhfofkcaaSeenH
import Derived.Test.YtglebkjhfofkcaaDraw
import Derived.Deep.RegionHeld3
namespace Go.Proofs.Ytglebkjhfofkcaa
open Go.ChangeShapes Go.WideShapes Go.ChangeAt Go.RowKit
set_option linter.unusedVariables false
theorem new_has (first : Int) (h : okB first = true) : seenHas (sadd first (-1)) [] first = false := by
  have h1 := sadd_range first (-1) h
  obtain ⟨h2, h3⟩ := okB_true h
  have e := sadd_of first (-1) h
  rw [seenHas_ok (by unfold seenOk; rw [okB_mk h1]; rfl) h]
  have : sdiff (sadd first (-1)) first = 1 := by unfold sdiff; rw [if_neg (by omega)]; omega
  rw [this]
  rfl
theorem new_has2 (first : Int) (h : okB first = true) : seenHas (sadd first (-1)) [] (sadd first (-1)) = true := by
  have h1 := sadd_range first (-1) h
  rw [seenHas_ok (by unfold seenOk; rw [okB_mk h1]; rfl) (okB_mk h1)]
  have : sdiff (sadd first (-1)) (sadd first (-1)) = 0 := by unfold sdiff; rw [if_neg (by omega)]; omega
  rw [this]
  rfl
theorem new_ok (first : Int) (h : okB first = true) : seenOk (sadd first (-1)) [] = true := by unfold seenOk; rw [okB_mk (sadd_range first (-1) h)]; rfl
theorem walkFnSeenNew (A : Option Addr) (n c : Nat) (w : World) (h : Bts w A n c) :
    Calls Try.prog 3 #[.slice A n c] w fun e w' => e = .returned (.bool true) ∧ Below w.heap.size w w' := by
  have hle := h.le
  have H := Lib.hid h; clear h
  by_cases hn : 1048576 < n
  · go_enter Try.func3, Try.ntmps3
    go_wp2
    go_ret
    exact ⟨rfl, Below.refl _ _⟩
  · go_enter Try.func3, Try.ntmps3
    go_wp2_with fail
    refine (draw_seen_new _ _ _ _ H.out).mono ?_
    rintro e w1 ⟨r, rfl, r1, r2, b1⟩
    go_wp2_with fail
    refine (iseen_new _ _).mono ?_
    rintro e w2 ⟨A2, c2, rfl, o2, b2⟩
    have O2 := Lib.hid o2; clear o2
    go_wp2_with fail
    refine (sseen_new _ _).mono ?_
    rintro e w3 ⟨A3, c3, rfl, o3, b3'⟩
    obtain ⟨q3, z3, b3⟩ := boxed b3'
    have x0 := q3.get 0 rfl
    have x1 := q3.get 1 rfl
    have Q3 := Lib.hid q3
    have O3 := Lib.hid o3
    have O2' := Lib.hid (O2.out.below b3 (Nat.le_refl _))
    have B3 := Lib.hid (bstep b1 (bstep b2 b3 b2.size) b1.size)
    clear b1 b2 b3 b3' q3 o3
    go_wp2_with fail
    refine (same_seen _ _ _ _ _ _ [] _ ((O2'.out.sl.alloc (Nat.le_refl _) _).more (by simp)) ((O3.out.sl.alloc (Nat.le_refl _) _).more (by simp)) rfl (by simp)).mono ?_
    rintro e w4 ⟨rfl, b4'⟩
    obtain ⟨q4, z4, b4⟩ := boxed b4'
    have Q4 := Q3.out.below b4 Q3.out.lt
    have y0 := Q4.get 0 rfl
    have y1 := Q4.get 1 rfl
    have Q4h := Lib.hid Q4
    have O4 := Lib.hid (O2'.out.below b4 (Nat.le_refl _))
    have B34 := Lib.hid b4'
    have y2 := q4.get 0 rfl
    have y3 := q4.get 1 rfl
    have B4 := Lib.hid (bstep B3.out b4 B3.out.size)
    clear b4' b4 q4 Q4 x0 x1
    by_cases hok : okB r = true
    · have e1 : snCum r = sadd r (-1) := if_pos hok
      rw [e1] at y0
      rw [e1] at Q4h
      clear e1
      have hh := Lib.hid (new_has r hok)
      have hh2 := Lib.hid (new_has2 r hok)
      have hh3 := Lib.hid (new_ok r hok)
      go_wp2_with fail
      go_region_held3 (fun w' => w'.cell? ⟨w2.heap.size, 0, none⟩ = some (.int .i64 (sadd r (-1))) ∧ w'.cell? ⟨w2.heap.size, 1, none⟩ = some (.slice A2 0 c2)) (first | exact ⟨y0, y1⟩ | exact ⟨p0, p1⟩ | exact ⟨s0, s1⟩ | exact ⟨t0, t1⟩ | go_keep)
        (first
          | (go_at_call 24; (with_reducible refine (iseen_has_eq hh.out _ _ _ _ O4.out.drew.sl List.length_nil (Nat.zero_le _)).mono ?_); rintro e w5 ⟨rfl, b5⟩; have Q5 := Lib.hid (Q4h.out.drew.below b5 Q4h.out.lt); have p0 := Q5.out.get 0 rfl; have p1 := Q5.out.get 1 rfl; have O5 := Lib.hid (O4.out.drew.below b5 (Nat.le_refl _)); have B5 := Lib.hid (bstep B4.out.drew b5 B4.out.size); clear b5)
          | (go_at_call 25; refine (iadd_any _ _ _).mono ?_; rintro e w' ⟨rfl, rfl⟩)
          | (go_at_call 24; (with_reducible refine (iseen_has_eq hh2.out _ _ _ _ O5.out.sl List.length_nil (Nat.zero_le _)).mono ?_); rintro e w6 ⟨rfl, b6⟩; have Q6 := Lib.hid (Q5.out.below b6 Q5.out.lt); have s0 := Q6.out.get 0 rfl; have s1 := Q6.out.get 1 rfl; have O6 := Lib.hid (O5.out.below b6 (Nat.le_refl _)); have B6 := Lib.hid (bstep B5.out b6 B5.out.size); clear b6)
          | (go_at_call 26; (with_reducible refine (iseen_valid_eq hh3.out _ _ _ _ O6.out.sl List.length_nil (Nat.zero_le _)).mono ?_); rintro e w7 ⟨rfl, b7⟩; have Q7 := Lib.hid (Q6.out.below b7 Q6.out.lt); have t0 := Q7.out.get 0 rfl; have t1 := Q7.out.get 1 rfl; have B7 := Lib.hid (bstep B6.out b7 B6.out.size); clear b7))
      go_wp2
      go_ret
      exact ⟨rfl, B7.out⟩
    · have hok : okB r = false := by simpa using hok
      have O34 := Lib.hid ((O3.out.below (bstep ((Below.refl _ w3).alloc (Nat.le_refl _) _) (B34.out) (by simp)) (Nat.le_refl _)))
      go_wp2_with fail
      refine (same_seen _ _ _ _ _ _ [] _ O4.out.sl O34.out.sl rfl (by simp)).mono ?_
      rintro e w5 ⟨rfl, b5⟩
      go_wp2
      go_ret
      exact ⟨ret_bool (by simp), bstep B4.out b5 B4.out.size⟩
end Go.Proofs.Ytglebkjhfofkcaa
