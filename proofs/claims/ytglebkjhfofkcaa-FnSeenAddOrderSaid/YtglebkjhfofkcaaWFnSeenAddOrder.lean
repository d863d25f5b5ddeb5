/-
  The walk of 'FnSeenAddOrder'. Condition: both codes are slices of bytes.
-/
import Derived.Test.YtglebkjhfofkcaaWFnSeenAddFar
import Derived.Test.YtglebkjhfofkcaaSeenQ
import Derived.Test.YtglebkjhfofkcaaSame
import Derived.Test.YtglebkjhfofkcaaDrawS2
import Derived.Deep.RegionHeld3
namespace Go.Proofs.Ytglebkjhfofkcaa
open Go.ChangeShapes Go.WideShapes Go.ChangeAt Go.RowKit
set_option linter.unusedVariables false
theorem sa_short18 (cum : Int) (zs : List Int) (tsn : Int) (h : zs.length ≤ 18) : (saExtra cum zs tsn).length ≤ 18 := by
  unfold saExtra
  split
  · simp
  · split
    · exact Nat.le_trans (extraTo_len _ _ _) (by omega)
    · omega
set_option maxHeartbeats 1600000 in
theorem walkFnSeenAddOrder (A : Option Addr) (n c : Nat) (A0 : Option Addr) (n0 c0 : Nat) (w : World) (h : Bts w A n c) (h0 : Bts w A0 n0 c0) :
    Calls Try.prog 12 #[.slice A n c, .slice A0 n0 c0] w fun e w' => e = .returned (.bool true) ∧ Below w.heap.size w w' := by
  have hle := h.le
  have hle0 := h0.le
  clear h0
  have H := Lib.hid h; clear h
  by_cases hn : 1048576 < n
  · go_enter Try.func12, Try.ntmps12
    go_wp2
    go_ret
    exact ⟨rfl, Below.refl _ _⟩
  by_cases hn0 : 1048576 < n0
  · go_enter Try.func12, Try.ntmps12
    go_wp2
    go_ret
    exact ⟨rfl, Below.refl _ _⟩
  · go_enter Try.func12, Try.ntmps12
    go_wp2_with fail
    refine (draw_seen_add _ _ _ _ H.out).mono ?_
    rintro e w1 ⟨cum, A1, n1, c1, zs, tsn, rfl, hzl, hn1, o1, b1⟩
    subst hzl
    have O1 := Lib.hid o1
    have B1 := Lib.hid b1
    have HEL := Lib.hid (sa_short18 cum zs tsn (by omega))
    obtain ⟨C, hC⟩ : ∃ C, C = saCum cum zs tsn := ⟨_, rfl⟩
    obtain ⟨E, hE⟩ : ∃ E, E = saExtra cum zs tsn := ⟨_, rfl⟩
    obtain ⟨K, hK⟩ : ∃ K, K = saCode cum zs tsn := ⟨_, rfl⟩
    have hcases := Lib.hid (fun (h : saCode cum zs tsn = 0) => order_pure h)
    have ISA := Lib.hid (fun (A : Option Addr) (n c : Nat) (w : World) hs hn hm => iseen_add cum A n c zs tsn w hs hn hm)
    have SSA := Lib.hid (fun (A : Option Addr) (n c : Nat) (w : World) hs hn hm => sseen_add cum A n c zs tsn w hs hn hm)
    unfold SeenAddP at ISA SSA
    rw [← hC, ← hE, ← hK] at ISA SSA hcases
    rw [← hE] at HEL
    clear o1 b1 hC hE hK
    go_wp2_with fail
    refine (ISA.out _ _ _ _ ((O1.out.sl.alloc (Nat.le_refl _) _).more (by simp)) rfl (by omega)).mono ?_
    rintro e w2 ⟨A2, c2, rfl, o2, b2'⟩
    obtain ⟨q2, z2, b2⟩ := boxed b2'
    have O2 := Lib.hid o2
    have O12 := Lib.hid (O1.out.below b2 (Nat.le_refl _))
    have Q2 := Lib.hid q2
    have x0 := q2.get 0 rfl
    have x1 := q2.get 1 rfl
    have B2 := Lib.hid (bstep B1.out b2 B1.out.size)
    clear o2 b2' b2 q2
    go_wp2_with fail
    refine (SSA.out _ _ _ _ ((O12.out.sl.alloc (Nat.le_refl _) _).more (by simp)) rfl (by omega)).mono ?_
    rintro e w3 ⟨A3, c3, rfl, o3, b3'⟩
    obtain ⟨q3, z3, b3⟩ := boxed b3'
    have O3 := Lib.hid o3
    have O13 := Lib.hid (O12.out.below b3 (Nat.le_refl _))
    have O23 := Lib.hid (O2.out.below b3 (Nat.le_refl _))
    have Qs := Q2.out.below b3 Q2.out.lt
    have QS := Lib.hid Qs
    have QO := Lib.hid q3
    have x0 := Qs.get 0 rfl
    have x1 := Qs.get 1 rfl
    have y0 := q3.get 0 rfl
    have y1 := q3.get 1 rfl
    have B3 := Lib.hid (bstep B2.out b3 B2.out.size)
    clear o3 b3' b3 q3 Qs
    go_wp2_with fail
    refine (same_seen _ _ _ _ _ _ E _ ((O23.out.sl.alloc (Nat.le_refl _) _).more (by simp)) ((O3.out.sl.alloc (Nat.le_refl _) _).more (by simp)) rfl (Nat.le_trans HEL.out (by omega))).mono ?_
    rintro e w4 ⟨rfl, b4'⟩
    have B34 := Lib.hid b4'
    obtain ⟨q4, z4, b4⟩ := boxed b4'
    have Qs := QS.out.below b4 QS.out.lt
    have Qo := QO.out.below b4 QO.out.lt
    have QS4 := Lib.hid Qs
    have QO4 := Lib.hid Qo
    have O14 := Lib.hid (O13.out.below b4 (Nat.le_refl _))
    have O24 := Lib.hid (O23.out.below b4 (Nat.le_refl _))
    have O34 := Lib.hid ((O3.out.below (bstep ((Below.refl _ w3).alloc (Nat.le_refl _) _) (B34.out) (by simp)) (Nat.le_refl _)))
    have x0 := Qs.get 0 rfl
    have x1 := Qs.get 1 rfl
    have y0 := Qo.get 0 rfl
    have y1 := Qo.get 1 rfl
    have v0 := q4.get 0 rfl
    have v1 := q4.get 1 rfl
    have B4 := Lib.hid (bstep B3.out b4 B3.out.size)
    clear b4 b4' q4 Qs Qo
    simp only [List.getElem_toArray, List.getElem_cons_zero, List.getElem_cons_succ] at x0 x1 y0 y1 v0 v1
    by_cases h3 : K = 0
    · have P6 := Lib.hid (hcases.out h3 (1 + (n0 : Int) % 16) (by omega) (by omega) _ rfl)
      subst h3
      clear hcases ISA SSA
      go_wp2_with (go_at_call 25; refine (iadd_any _ _ _).mono ?_; rintro e w' ⟨rfl, rfl⟩)
      generalize sadd cum (1 + (n0 : Int) % 16) = x at P6 ⊢
      have IS1 := Lib.hid (fun (A : Option Addr) (n c : Nat) (w : World) hs hn hm => iseen_add C A n c E x w hs hn hm)
      have IS2 := Lib.hid (fun (A : Option Addr) (n c : Nat) (w : World) hs hn hm => iseen_add cum A n c zs x w hs hn hm)
      have IS3 := Lib.hid (fun (A : Option Addr) (n c : Nat) (w : World) hs hn hm => iseen_add (saCum cum zs x) A n c (saExtra cum zs x) tsn w hs hn hm)
      have HL1 := Lib.hid (sa_short18 C E x HEL.out)
      have HL2 := Lib.hid (sa_short18 cum zs x (by omega))
      unfold SeenAddP at IS1 IS2 IS3
      generalize saCode (saCum cum zs x) (saExtra cum zs x) tsn = K3 at P6 IS3
      generalize saCum (saCum cum zs x) (saExtra cum zs x) tsn = C3 at P6 IS3
      generalize saExtra (saCum cum zs x) (saExtra cum zs x) tsn = E3 at P6 IS3
      generalize saCode cum zs x = K2 at P6 IS2
      generalize saCum cum zs x = C2 at IS2 IS3
      generalize saExtra cum zs x = E2 at IS2 IS3 HL2
      generalize saCode C E x = K1 at P6 IS1
      generalize saCum C E x = C1 at P6 IS1
      generalize saExtra C E x = E1 at P6 IS1 HL1
      go_wp2_with fail
      refine (IS1.out _ _ _ _ O24.out.sl rfl (Nat.le_trans HEL.out (by omega))).mono ?_
      rintro e w5 ⟨A5, c5, rfl, o5, b5⟩
      have Qs5 := QS4.out.below b5 QS4.out.lt
      have x0 := Qs5.get 0 rfl
      have x1 := Qs5.get 1 rfl
      simp only [List.getElem_toArray, List.getElem_cons_zero, List.getElem_cons_succ] at x0 x1
      have O5 := Lib.hid o5
      have O15 := Lib.hid (O14.out.below b5 (Nat.le_refl _))
      have B5 := Lib.hid (bstep B4.out b5 B4.out.size)
      have hl5 := Qs5.lt
      clear b5 Qs5 o5 y0 y1 v0 v1
      go_wp2_with fail
      refine (IS2.out _ _ _ _ ((O15.out.sl.alloc (Nat.le_refl _) _).more (by simp)) rfl (by omega)).mono ?_
      rintro e w6 ⟨A6, c6, rfl, o6, b6'⟩
      obtain ⟨q6, z6, b6⟩ := boxed b6'
      have O6 := Lib.hid o6
      have O56 := Lib.hid (O5.out.below b6 (Nat.le_refl _))
      have Q6 := Lib.hid q6
      have B6 := Lib.hid (bstep B5.out b6 B5.out.size)
      clear b6 b6' q6 o6 x0 x1
      go_wp2_with fail
      refine (IS3.out _ _ _ _ ((O6.out.sl.alloc (Nat.le_refl _) _).more (by simp)) rfl (Nat.le_trans HL2.out (by omega))).mono ?_
      rintro e w7 ⟨A7, c7, rfl, o7, b7'⟩
      obtain ⟨q7, z7, b7⟩ := boxed b7'
      have O7 := Lib.hid o7
      have O57 := Lib.hid (O56.out.below b7 (Nat.le_refl _))
      have q67 := Q6.out.below b7 Q6.out.lt
      have x0 := q67.get 0 rfl
      have x1 := q67.get 1 rfl
      simp only [List.getElem_toArray, List.getElem_cons_zero, List.getElem_cons_succ] at x0 x1
      have hl7 := q67.lt
      have B7 := Lib.hid (bstep B6.out b7 B6.out.size)
      clear b7 b7' q7 o7 q67
      obtain ⟨k1, k2, k3, k4⟩ := P6.out
      rcases k1 with k1 | k1
      · have k2' : K2 = 0 := by
          rcases k2 with k2 | k2
          · exact k2
          · have := k3 k2; omega
        obtain ⟨rfl, rfl, rfl⟩ := k4 k1 k2'
        subst k1 k2'
        clear k2 k3 k4 P6
        go_wp2_with fail
        refine (same_seen _ _ _ _ _ _ E1 _ ((O57.out.sl.alloc (Nat.le_refl _) _).more (by simp)) ((O7.out.sl.alloc (Nat.le_refl _) _).more (by simp)) rfl (Nat.le_trans HL1.out (by omega))).mono ?_
        rintro e w8 ⟨rfl, b8⟩
        go_wp2
        go_ret
        exact ⟨ret_bool (by simp), bstep (B7.out.alloc B7.out.size _) b8 (by have := B7.out.size; simp; omega)⟩
      · subst k1
        clear k2 k3 k4 P6
        go_wp2
        go_ret
        exact ⟨ret_bool (by simp), B7.out.alloc B7.out.size _⟩
    · have k7 : (K == 0) = false := by simp [h3]
      go_wp2_with fail
      refine (same_seen _ _ _ _ _ _ E _ (O24.out.sl) (O34.out.sl) rfl (Nat.le_trans HEL.out (by omega))).mono ?_
      rintro e w5 ⟨rfl, b5⟩
      go_wp2
      go_ret
      exact ⟨ret_bool (by simp), bstep B4.out b5 B4.out.size⟩
end Go.Proofs.Ytglebkjhfofkcaa
