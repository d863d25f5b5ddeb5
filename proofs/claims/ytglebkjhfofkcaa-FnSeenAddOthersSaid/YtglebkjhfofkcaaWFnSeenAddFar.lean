/-
  The walk of 'FnSeenAddFar'. Condition: the code is a slice of bytes.
-/
import Derived.Test.YtglebkjhfofkcaaSeenC
import Derived.Test.YtglebkjhfofkcaaSeenA
import Derived.Test.YtglebkjhfofkcaaSame
import Derived.Test.YtglebkjhfofkcaaDrawS2
import Derived.Deep.RegionHeld3
namespace Go.Proofs.Ytglebkjhfofkcaa
open Go.ChangeShapes Go.WideShapes Go.ChangeAt Go.RowKit
set_option linter.unusedVariables false
theorem sa_cases (cum : Int) (zs : List Int) (tsn : Int) : saCode cum zs tsn = 3 ∨ (okB cum = true ∧ okB tsn = true ∧ seenOk cum zs = true ∧ (saCode cum zs tsn = 2 → saCum cum zs tsn = cum ∧ saExtra cum zs tsn = zs) ∧ decide (16 < sdiff cum tsn) = decide (saCode cum zs tsn = 2) ∧ saCode cum zs tsn ≠ 3 ∧ (saCode cum zs tsn = 1 → saCum cum zs tsn = cum ∧ saExtra cum zs tsn = zs) ∧ seenHas cum zs tsn = decide (saCode cum zs tsn = 1)) := by
  by_cases h1 : seenOk cum zs = true
  · by_cases h2 : okB tsn = true
    · right
      refine ⟨(seenOk_true h1).2, h2, h1, fun e => ?_, ?_, ?_, fun e => ?_, ?_⟩
      · unfold saCum saExtra; rw [e]; exact ⟨rfl, rfl⟩
      · by_cases h3 : (decide (sdiff cum tsn ≤ 0) || hasB zs (sdiff cum tsn)) = true
        · rw [sa1 h1 h2 h3]
          have : ¬ 16 < sdiff cum tsn := by
            intro hh
            rcases Bool.or_eq_true _ _ ▸ h3 with h4 | h4
            · have := of_decide_eq_true h4; omega
            · have := seenOk_mem h1 _ (hasB_mem.1 h4); omega
          simp [this]
        · have h3 : (decide (sdiff cum tsn ≤ 0) || hasB zs (sdiff cum tsn)) = false := by simpa using h3
          by_cases h4 : 16 < sdiff cum tsn
          · rw [sa2 h1 h2 h3 h4]; simp [h4]
          · rw [sa0 h1 h2 h3 h4]; simp [h4]
      · by_cases h3 : (decide (sdiff cum tsn ≤ 0) || hasB zs (sdiff cum tsn)) = true
        · rw [sa1 h1 h2 h3]; decide
        · have h3 : (decide (sdiff cum tsn ≤ 0) || hasB zs (sdiff cum tsn)) = false := by simpa using h3
          by_cases h4 : 16 < sdiff cum tsn
          · rw [sa2 h1 h2 h3 h4]; decide
          · rw [sa0 h1 h2 h3 h4]; decide
      · unfold saCum saExtra; rw [e]; exact ⟨rfl, rfl⟩
      · rw [seenHas_ok h1 h2]
        by_cases h3 : (decide (sdiff cum tsn ≤ 0) || hasB zs (sdiff cum tsn)) = true
        · rw [sa1 h1 h2 h3, h3]; rfl
        · have h3 : (decide (sdiff cum tsn ≤ 0) || hasB zs (sdiff cum tsn)) = false := by simpa using h3
          rw [h3]
          by_cases h4 : 16 < sdiff cum tsn
          · rw [sa2 h1 h2 h3 h4]; rfl
          · rw [sa0 h1 h2 h3 h4]; rfl
    · exact .inl (sa3 (.inr (by simpa using h2)))
  · exact .inl (sa3 (.inl (by simpa using h1)))
theorem sa_short (cum : Int) (zs : List Int) (tsn : Int) (h : zs.length ≤ 18) : (saExtra cum zs tsn).length ≤ 9223372036854775807 := by
  unfold saExtra
  split
  · simp
  · split
    · exact Nat.le_trans (extraTo_len _ _ _) (by omega)
    · omega
set_option maxHeartbeats 1600000 in
theorem walkFnSeenAddFar (A : Option Addr) (n c : Nat) (w : World) (h : Bts w A n c) :
    Calls Try.prog 11 #[.slice A n c] w fun e w' => e = .returned (.bool true) ∧ Below w.heap.size w w' := by
  have hle := h.le
  have H := Lib.hid h; clear h
  by_cases hn : 1048576 < n
  · go_enter Try.func11, Try.ntmps11
    go_wp2
    go_ret
    exact ⟨rfl, Below.refl _ _⟩
  · go_enter Try.func11, Try.ntmps11
    go_wp2_with fail
    refine (draw_seen_add _ _ _ _ H.out).mono ?_
    rintro e w1 ⟨cum, A1, n1, c1, zs, tsn, rfl, hzl, hn1, o1, b1⟩
    subst hzl
    have O1 := Lib.hid o1
    have B1 := Lib.hid b1
    have HEL := Lib.hid (sa_short cum zs tsn (by omega))
    obtain ⟨C, hC⟩ : ∃ C, C = saCum cum zs tsn := ⟨_, rfl⟩
    obtain ⟨E, hE⟩ : ∃ E, E = saExtra cum zs tsn := ⟨_, rfl⟩
    obtain ⟨K, hK⟩ : ∃ K, K = saCode cum zs tsn := ⟨_, rfl⟩
    have hcases := Lib.hid (sa_cases cum zs tsn)
    have ISA := Lib.hid (fun (A : Option Addr) (n c : Nat) (w : World) hs hn hm => iseen_add cum A n c zs tsn w hs hn hm)
    have SSA := Lib.hid (fun (A : Option Addr) (n c : Nat) (w : World) hs hn hm => sseen_add cum A n c zs tsn w hs hn hm)
    unfold SeenAddP at ISA SSA
    rw [← hC, ← hE, ← hK] at ISA SSA hcases
    rw [← hE] at HEL
    clear o1 b1 hC hE hK
    go_wp2_with fail
    refine (ISA.out _ _ _ _ ((O1.out.sl.alloc (Nat.le_refl _) _).more (by simp)) rfl (by omega)).mono ?_
    rintro e w2 ⟨A2, c2, rfl, o2, b2'⟩
    obtain ⟨q2, z2, b2⟩ := boxed b2'
    have O2 := Lib.hid o2
    have O12 := Lib.hid (O1.out.below b2 (Nat.le_refl _))
    have Q2 := Lib.hid q2
    have x0 := q2.get 0 rfl
    have x1 := q2.get 1 rfl
    have B2 := Lib.hid (bstep B1.out b2 B1.out.size)
    clear o2 b2' b2 q2
    go_wp2_with fail
    refine (SSA.out _ _ _ _ ((O12.out.sl.alloc (Nat.le_refl _) _).more (by simp)) rfl (by omega)).mono ?_
    rintro e w3 ⟨A3, c3, rfl, o3, b3'⟩
    obtain ⟨q3, z3, b3⟩ := boxed b3'
    have O3 := Lib.hid o3
    have O13 := Lib.hid (O12.out.below b3 (Nat.le_refl _))
    have O23 := Lib.hid (O2.out.below b3 (Nat.le_refl _))
    have Qs := Q2.out.below b3 Q2.out.lt
    have QS := Lib.hid Qs
    have QO := Lib.hid q3
    have x0 := Qs.get 0 rfl
    have x1 := Qs.get 1 rfl
    have y0 := q3.get 0 rfl
    have y1 := q3.get 1 rfl
    have B3 := Lib.hid (bstep B2.out b3 B2.out.size)
    clear o3 b3' b3 q3 Qs
    go_wp2_with fail
    refine (same_seen _ _ _ _ _ _ E _ ((O23.out.sl.alloc (Nat.le_refl _) _).more (by simp)) ((O3.out.sl.alloc (Nat.le_refl _) _).more (by simp)) rfl HEL.out).mono ?_
    rintro e w4 ⟨rfl, b4'⟩
    have B34 := Lib.hid b4'
    obtain ⟨q4, z4, b4⟩ := boxed b4'
    have Qs := QS.out.below b4 QS.out.lt
    have Qo := QO.out.below b4 QO.out.lt
    have QS4 := Lib.hid Qs
    have QO4 := Lib.hid Qo
    have O14 := Lib.hid (O13.out.below b4 (Nat.le_refl _))
    have O24 := Lib.hid (O23.out.below b4 (Nat.le_refl _))
    have O34 := Lib.hid ((O3.out.below (bstep ((Below.refl _ w3).alloc (Nat.le_refl _) _) (B34.out) (by simp)) (Nat.le_refl _)))
    have x0 := Qs.get 0 rfl
    have x1 := Qs.get 1 rfl
    have y0 := Qo.get 0 rfl
    have y1 := Qo.get 1 rfl
    have v0 := q4.get 0 rfl
    have v1 := q4.get 1 rfl
    have B4 := Lib.hid (bstep B3.out b4 B3.out.size)
    clear b4 b4' q4 Qs Qo
    simp only [List.getElem_toArray, List.getElem_cons_zero, List.getElem_cons_succ] at x0 x1 y0 y1 v0 v1
    by_cases h3 : K = 3
    · subst h3
      go_wp2_with fail
      refine (same_seen _ _ _ _ _ _ E _ (O24.out.sl) (O34.out.sl) rfl HEL.out).mono ?_
      rintro e w5 ⟨rfl, b5⟩
      go_wp2
      go_ret
      exact ⟨ret_bool (by simp), bstep B4.out b5 B4.out.size⟩
    · rcases hcases.out with h | ⟨k1, k2, k3, k4, k5, _, _, _⟩
      · exact absurd h h3
      · by_cases h2 : K = 2
        · obtain ⟨rfl, rfl⟩ := k4 h2
          subst h2
          have k6 : 16 < sdiff C tsn := by simpa using k5
          clear k4 k5 hcases
          go_wp2_with (go_at_call 46; refine (idiff_ok _ _ k1 k2 _).mono ?_; rintro e w' ⟨rfl, rfl⟩)
          refine (same_seen _ _ _ _ _ _ E _ (O24.out.sl) (O14.out.sl) rfl HEL.out).mono ?_
          rintro e w5 ⟨rfl, b5⟩
          go_wp2
          go_ret
          exact ⟨ret_bool (by simp), bstep B4.out b5 B4.out.size⟩
        · have k6 : ¬ 16 < sdiff cum tsn := by simpa [h2] using k5
          have k7 : (K == 2) = false := by simp [h2]
          have k8 : decide (16 < sdiff cum tsn) = false := by simp; omega
          clear k4 k5 hcases
          go_wp2_with (go_at_call 46; refine (idiff_ok _ _ k1 k2 _).mono ?_; rintro e w' ⟨rfl, rfl⟩)
          all_goals
            go_ret
            first | exact ⟨rfl, B4.out⟩ | (exfalso; rename_i hx; rw [k7, k8] at hx; exact hx rfl) | (refine ⟨ret_bool ?_, B4.out⟩; rw [k7, k8]; rfl) | (refine ⟨ret_bool ?_, B4.out⟩; simp [k7, k8]; done)
end Go.Proofs.Ytglebkjhfofkcaa
