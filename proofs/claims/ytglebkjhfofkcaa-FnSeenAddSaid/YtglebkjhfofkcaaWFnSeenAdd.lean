/-
  The walk of 'FnSeenAdd'. Condition: the code is a slice of bytes.
-/
import Derived.Test.YtglebkjhfofkcaaWFnSeenAddTwice
import Derived.Test.YtglebkjhfofkcaaSame
import Derived.Test.YtglebkjhfofkcaaDrawS2
import Derived.Deep.RegionHeld3
namespace Go.Proofs.Ytglebkjhfofkcaa
open Go.ChangeShapes Go.WideShapes Go.ChangeAt Go.RowKit
set_option linter.unusedVariables false
theorem sa1_inv {cum : Int} {zs : List Int} {tsn : Int} (h : saCode cum zs tsn = 1) : seenOk cum zs = true ∧ seenHas cum zs tsn = true := by
  rcases sa_cases cum zs tsn with h3 | ⟨_, _, h1, _, _, _, _, h2⟩
  · rw [h] at h3; cases h3
  · exact ⟨h1, by rw [h2, h]; rfl⟩
theorem add_pure {cum : Int} {zs : List Int} {tsn : Int} (h : saCode cum zs tsn = 0) : seenHas cum zs tsn = false ∧ seenHas (saCum cum zs tsn) (saExtra cum zs tsn) tsn = true ∧ seenOk (saCum cum zs tsn) (saExtra cum zs tsn) = true := by
  obtain ⟨k1, k2⟩ := sa1_inv (twice_pure h)
  refine ⟨?_, k2, k1⟩
  rcases sa_cases cum zs tsn with h3 | ⟨_, _, h1, _, _, _, _, h2⟩
  · rw [h] at h3; cases h3
  · rw [h2, h]; rfl
set_option maxHeartbeats 1600000 in
theorem walkFnSeenAdd (A : Option Addr) (n c : Nat) (w : World) (h : Bts w A n c) :
    Calls Try.prog 16 #[.slice A n c] w fun e w' => e = .returned (.bool true) ∧ Below w.heap.size w w' := by
  have hle := h.le
  have H := Lib.hid h; clear h
  by_cases hn : 1048576 < n
  · go_enter Try.func16, Try.ntmps16
    go_wp2
    go_ret
    exact ⟨rfl, Below.refl _ _⟩
  · go_enter Try.func16, Try.ntmps16
    go_wp2_with fail
    refine (draw_seen_add _ _ _ _ H.out).mono ?_
    rintro e w1 ⟨cum, A1, n1, c1, zs, tsn, rfl, hzl, hn1, o1, b1⟩
    subst hzl
    have O1 := Lib.hid o1
    have B1 := Lib.hid b1
    have HEL := Lib.hid (sa_short cum zs tsn (by omega))
    obtain ⟨C, hC⟩ : ∃ C, C = saCum cum zs tsn := ⟨_, rfl⟩
    obtain ⟨E, hE⟩ : ∃ E, E = saExtra cum zs tsn := ⟨_, rfl⟩
    obtain ⟨K, hK⟩ : ∃ K, K = saCode cum zs tsn := ⟨_, rfl⟩
    have hcases := Lib.hid (fun (h : saCode cum zs tsn = 0) => add_pure h)
    have ISA := Lib.hid (fun (A : Option Addr) (n c : Nat) (w : World) hs hn hm => iseen_add cum A n c zs tsn w hs hn hm)
    have SSA := Lib.hid (fun (A : Option Addr) (n c : Nat) (w : World) hs hn hm => sseen_add cum A n c zs tsn w hs hn hm)
    unfold SeenAddP at ISA SSA
    rw [← hC, ← hE, ← hK] at ISA SSA hcases
    rw [← hE] at HEL
    clear o1 b1 hC hE hK
    go_wp2_with fail
    refine (ISA.out _ _ _ _ ((O1.out.sl.alloc (Nat.le_refl _) _).more (by simp)) rfl (by omega)).mono ?_
    rintro e w2 ⟨A2, c2, rfl, o2, b2'⟩
    obtain ⟨q2, z2, b2⟩ := boxed b2'
    have O2 := Lib.hid o2
    have O12 := Lib.hid (O1.out.below b2 (Nat.le_refl _))
    have Q2 := Lib.hid q2
    have x0 := q2.get 0 rfl
    have x1 := q2.get 1 rfl
    have B2 := Lib.hid (bstep B1.out b2 B1.out.size)
    clear o2 b2' b2 q2
    go_wp2_with fail
    refine (SSA.out _ _ _ _ ((O12.out.sl.alloc (Nat.le_refl _) _).more (by simp)) rfl (by omega)).mono ?_
    rintro e w3 ⟨A3, c3, rfl, o3, b3'⟩
    obtain ⟨q3, z3, b3⟩ := boxed b3'
    have O3 := Lib.hid o3
    have O13 := Lib.hid (O12.out.below b3 (Nat.le_refl _))
    have O23 := Lib.hid (O2.out.below b3 (Nat.le_refl _))
    have Qs := Q2.out.below b3 Q2.out.lt
    have QS := Lib.hid Qs
    have QO := Lib.hid q3
    have x0 := Qs.get 0 rfl
    have x1 := Qs.get 1 rfl
    have y0 := q3.get 0 rfl
    have y1 := q3.get 1 rfl
    have B3 := Lib.hid (bstep B2.out b3 B2.out.size)
    clear o3 b3' b3 q3 Qs
    go_wp2_with fail
    refine (same_seen _ _ _ _ _ _ E _ ((O23.out.sl.alloc (Nat.le_refl _) _).more (by simp)) ((O3.out.sl.alloc (Nat.le_refl _) _).more (by simp)) rfl HEL.out).mono ?_
    rintro e w4 ⟨rfl, b4'⟩
    have B34 := Lib.hid b4'
    obtain ⟨q4, z4, b4⟩ := boxed b4'
    have Qs := QS.out.below b4 QS.out.lt
    have Qo := QO.out.below b4 QO.out.lt
    have QS4 := Lib.hid Qs
    have QO4 := Lib.hid Qo
    have O14 := Lib.hid (O13.out.below b4 (Nat.le_refl _))
    have O24 := Lib.hid (O23.out.below b4 (Nat.le_refl _))
    have O34 := Lib.hid ((O3.out.below (bstep ((Below.refl _ w3).alloc (Nat.le_refl _) _) (B34.out) (by simp)) (Nat.le_refl _)))
    have x0 := Qs.get 0 rfl
    have x1 := Qs.get 1 rfl
    have y0 := Qo.get 0 rfl
    have y1 := Qo.get 1 rfl
    have v0 := q4.get 0 rfl
    have v1 := q4.get 1 rfl
    have B4 := Lib.hid (bstep B3.out b4 B3.out.size)
    clear b4 b4' q4 Qs Qo
    simp only [List.getElem_toArray, List.getElem_cons_zero, List.getElem_cons_succ] at x0 x1 y0 y1 v0 v1
    by_cases h3 : K = 0
    · obtain ⟨p1, p2, p3⟩ := hcases.out h3
      subst h3
      clear hcases
      go_wp2_with fail
      refine (iseen_has_eq p1 _ _ _ _ O14.out.sl rfl (by omega)).mono ?_
      rintro e w5 ⟨rfl, b5⟩
      have Qo5 := QO4.out.below b5 QO4.out.lt
      have QO5 := Lib.hid Qo5
      have y0 := Qo5.get 0 rfl
      have y1 := Qo5.get 1 rfl
      simp only [List.getElem_toArray, List.getElem_cons_zero, List.getElem_cons_succ] at y0 y1
      have O25 := Lib.hid (O24.out.below b5 (Nat.le_refl _))
      have B5 := Lib.hid (bstep B4.out b5 B4.out.size)
      clear b5 Qo5
      go_wp2_with fail
      refine (iseen_has_eq p2 _ _ _ _ O25.out.sl rfl HEL.out).mono ?_
      rintro e w6 ⟨rfl, b6⟩
      have Qo6 := QO5.out.below b6 QO5.out.lt
      have y0 := Qo6.get 0 rfl
      have y1 := Qo6.get 1 rfl
      simp only [List.getElem_toArray, List.getElem_cons_zero, List.getElem_cons_succ] at y0 y1
      have O26 := Lib.hid (O25.out.below b6 (Nat.le_refl _))
      have B6 := Lib.hid (bstep B5.out b6 B5.out.size)
      clear b6 Qo6
      go_wp2_with fail
      refine (iseen_valid_eq p3 _ _ _ _ O26.out.sl rfl HEL.out).mono ?_
      rintro e w7 ⟨rfl, b7⟩
      go_wp2
      go_ret
      exact ⟨rfl, bstep B6.out b7 B6.out.size⟩
    · have k7 : (K == 0) = false := by simp [h3]
      go_wp2_with fail
      refine (same_seen _ _ _ _ _ _ E _ (O24.out.sl) (O34.out.sl) rfl HEL.out).mono ?_
      rintro e w5 ⟨rfl, b5⟩
      go_wp2
      go_ret
      exact ⟨ret_bool (by simp), bstep B4.out b5 B4.out.size⟩
end Go.Proofs.Ytglebkjhfofkcaa
