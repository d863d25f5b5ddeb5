/-
  The walk of 'FnSeenAddNext'. Condition: the code is a slice of bytes.
-/
import Derived.Test.YtglebkjhfofkcaaWFnSeenAddFar
import Derived.Test.YtglebkjhfofkcaaSame
import Derived.Test.YtglebkjhfofkcaaDrawS2
import Derived.Deep.RegionHeld3
namespace Go.Proofs.Ytglebkjhfofkcaa
open Go.ChangeShapes Go.WideShapes Go.ChangeAt Go.RowKit
set_option linter.unusedVariables false
theorem moveN_ge (all : List Int) : ∀ (f m : Nat), m ≤ moveN all f m
  | 0, m => Nat.le_refl _
  | f + 1, m => by
    unfold moveN
    split
    · have := moveN_ge all f (m + 1); omega
    · omega
theorem sdiff_sadd (cum : Int) (k : Int) (h : okB cum = true) (h0 : -32768 < k) (h1 : k ≤ 32768) : sdiff cum (sadd cum k) = k := by
  obtain ⟨c0, c1⟩ := okB_true h
  rw [sadd_of cum k h]
  unfold sdiff
  split <;> omega
theorem next_pure {cum : Int} {zs : List Int} (h : seenOk cum zs = true) : saCode cum zs (sadd cum 1) = 0 ∧ inB (sdiffX cum (saCum cum zs (sadd cum 1))) 1 32767 = true := by
  have hc := (seenOk_true h).2
  have ht := okB_mk (sadd_range cum 1 hc)
  have hd : sdiff cum (sadd cum 1) = 1 := sdiff_sadd cum 1 hc (by omega) (by omega)
  have hz : hasB zs 1 = false := hasB_not.2 (fun hm => by have := seenOk_mem h 1 hm; omega)
  have e0 : saCode cum zs (sadd cum 1) = 0 := sa0 h ht (by rw [hd, hz]; rfl) (by rw [hd]; omega)
  refine ⟨e0, ?_⟩
  have e1 : saCum cum zs (sadd cum 1) = sadd cum (moved (saAll cum zs (sadd cum 1))) := by unfold saCum; rw [e0]; rfl
  have ha : hasB (saAll cum zs (sadd cum 1)) 1 = true := by
    rw [hasB_mem]
    unfold saAll
    rw [hd]
    simp
  have m1 : 1 ≤ moved (saAll cum zs (sadd cum 1)) := by
    unfold moved
    unfold moveN
    rw [if_pos (by simpa using ha)]
    exact moveN_ge _ _ _
  have m2 := moveN_le (saAll cum zs (sadd cum 1)) 16 0
  have m3 : moved (saAll cum zs (sadd cum 1)) ≤ 16 := by unfold moved; omega
  rw [e1]
  have hok := okB_mk (sadd_range cum (moved (saAll cum zs (sadd cum 1))) hc)
  unfold sdiffX
  rw [hc, hok, if_pos (show (true && true) = true from rfl), sdiff_sadd cum (moved (saAll cum zs (sadd cum 1))) hc (by omega) (by omega)]
  exact inB_mk (by omega)
set_option maxHeartbeats 1600000 in
theorem walkFnSeenAddNext (A : Option Addr) (n c : Nat) (w : World) (h : Bts w A n c) :
    Calls Try.prog 14 #[.slice A n c] w fun e w' => e = .returned (.bool true) ∧ Below w.heap.size w w' := by
  have hle := h.le
  have H := Lib.hid h; clear h
  by_cases hn : 1048576 < n
  · go_enter Try.func14, Try.ntmps14
    go_wp2
    go_ret
    exact ⟨rfl, Below.refl _ _⟩
  · go_enter Try.func14, Try.ntmps14
    go_wp2_with fail
    refine (draw_seen_add _ _ _ _ H.out).mono ?_
    rintro e w1 ⟨cum, A1, n1, c1, zs, tsn, rfl, hzl, hn1, o1, b1⟩
    subst hzl
    have O1 := Lib.hid o1
    have B1 := Lib.hid b1
    have HEL := Lib.hid (sa_short cum zs tsn (by omega))
    obtain ⟨C, hC⟩ : ∃ C, C = saCum cum zs tsn := ⟨_, rfl⟩
    obtain ⟨E, hE⟩ : ∃ E, E = saExtra cum zs tsn := ⟨_, rfl⟩
    obtain ⟨K, hK⟩ : ∃ K, K = saCode cum zs tsn := ⟨_, rfl⟩
    have hcases := Lib.hid (sa_cases cum zs tsn)
    have ISA := Lib.hid (fun (A : Option Addr) (n c : Nat) (w : World) hs hn hm => iseen_add cum A n c zs tsn w hs hn hm)
    have SSA := Lib.hid (fun (A : Option Addr) (n c : Nat) (w : World) hs hn hm => sseen_add cum A n c zs tsn w hs hn hm)
    unfold SeenAddP at ISA SSA
    rw [← hC, ← hE, ← hK] at ISA SSA hcases
    rw [← hE] at HEL
    clear o1 b1 hC hE hK
    go_wp2_with fail
    refine (ISA.out _ _ _ _ ((O1.out.sl.alloc (Nat.le_refl _) _).more (by simp)) rfl (by omega)).mono ?_
    rintro e w2 ⟨A2, c2, rfl, o2, b2'⟩
    obtain ⟨q2, z2, b2⟩ := boxed b2'
    have O2 := Lib.hid o2
    have O12 := Lib.hid (O1.out.below b2 (Nat.le_refl _))
    have Q2 := Lib.hid q2
    have x0 := q2.get 0 rfl
    have x1 := q2.get 1 rfl
    have B2 := Lib.hid (bstep B1.out b2 B1.out.size)
    clear o2 b2' b2 q2
    go_wp2_with fail
    refine (SSA.out _ _ _ _ ((O12.out.sl.alloc (Nat.le_refl _) _).more (by simp)) rfl (by omega)).mono ?_
    rintro e w3 ⟨A3, c3, rfl, o3, b3'⟩
    obtain ⟨q3, z3, b3⟩ := boxed b3'
    have O3 := Lib.hid o3
    have O13 := Lib.hid (O12.out.below b3 (Nat.le_refl _))
    have O23 := Lib.hid (O2.out.below b3 (Nat.le_refl _))
    have Qs := Q2.out.below b3 Q2.out.lt
    have QS := Lib.hid Qs
    have QO := Lib.hid q3
    have x0 := Qs.get 0 rfl
    have x1 := Qs.get 1 rfl
    have y0 := q3.get 0 rfl
    have y1 := q3.get 1 rfl
    have B3 := Lib.hid (bstep B2.out b3 B2.out.size)
    clear o3 b3' b3 q3 Qs
    go_wp2_with fail
    refine (same_seen _ _ _ _ _ _ E _ ((O23.out.sl.alloc (Nat.le_refl _) _).more (by simp)) ((O3.out.sl.alloc (Nat.le_refl _) _).more (by simp)) rfl HEL.out).mono ?_
    rintro e w4 ⟨rfl, b4'⟩
    have B34 := Lib.hid b4'
    obtain ⟨q4, z4, b4⟩ := boxed b4'
    have Qs := QS.out.below b4 QS.out.lt
    have Qo := QO.out.below b4 QO.out.lt
    have QS4 := Lib.hid Qs
    have QO4 := Lib.hid Qo
    have O14 := Lib.hid (O13.out.below b4 (Nat.le_refl _))
    have O24 := Lib.hid (O23.out.below b4 (Nat.le_refl _))
    have O34 := Lib.hid ((O3.out.below (bstep ((Below.refl _ w3).alloc (Nat.le_refl _) _) (B34.out) (by simp)) (Nat.le_refl _)))
    have x0 := Qs.get 0 rfl
    have x1 := Qs.get 1 rfl
    have y0 := Qo.get 0 rfl
    have y1 := Qo.get 1 rfl
    have v0 := q4.get 0 rfl
    have v1 := q4.get 1 rfl
    have B4 := Lib.hid (bstep B3.out b4 B3.out.size)
    clear b4 b4' q4 Qs Qo
    simp only [List.getElem_toArray, List.getElem_cons_zero, List.getElem_cons_succ] at x0 x1 y0 y1 v0 v1
    by_cases h3 : K = 3
    · subst h3
      go_wp2_with fail
      refine (same_seen _ _ _ _ _ _ E _ (O24.out.sl) (O34.out.sl) rfl HEL.out).mono ?_
      rintro e w5 ⟨rfl, b5⟩
      go_wp2
      go_ret
      exact ⟨ret_bool (by simp), bstep B4.out b5 B4.out.size⟩
    · rcases hcases.out with h | ⟨k1, k2, k3, _, _, _, _, _⟩
      · exact absurd h h3
      · obtain ⟨p1, p2⟩ := next_pure k3
        have NSA := fun (A : Option Addr) (n c : Nat) (w : World) hs hn hm => iseen_add cum A n c zs (sadd cum 1) w hs hn hm
        unfold SeenAddP at NSA
        rw [p1] at NSA
        generalize saCum cum zs (sadd cum 1) = X at NSA p2
        generalize saExtra cum zs (sadd cum 1) = Y at NSA
        clear hcases
        have hl14 := QS4.out.lt
        go_wp2_with fail
        go_region_held3 (fun w' => w'.cell? ⟨w1.heap.size, 0, none⟩ = some (.int .i64 cum) ∧ w'.cell? ⟨w1.heap.size, 1, none⟩ = some (.slice A1 zs.length c1)) (first | exact ⟨x0, x1⟩ | exact ⟨r0, r1⟩ | exact ⟨((Q5.out.far (by first | exact Nat.ne_of_gt hl14 | exact Nat.ne_of_lt hl14) _).far (by first | exact Nat.ne_of_gt hl14 | exact Nat.ne_of_lt hl14) _).get 0 rfl, ((Q5.out.far (by first | exact Nat.ne_of_gt hl14 | exact Nat.ne_of_lt hl14) _).far (by first | exact Nat.ne_of_gt hl14 | exact Nat.ne_of_lt hl14) _).get 1 rfl⟩ | exact ⟨(Q5.out.alloc _).get 0 rfl, (Q5.out.alloc _).get 1 rfl⟩ | exact ⟨(((Q5.out.alloc _).far (by first | exact Nat.ne_of_gt hl5 | exact Nat.ne_of_lt hl5) _).far (by first | exact Nat.ne_of_gt hl5 | exact Nat.ne_of_lt hl5) _).get 0 rfl, (((Q5.out.alloc _).far (by first | exact Nat.ne_of_gt hl5 | exact Nat.ne_of_lt hl5) _).far (by first | exact Nat.ne_of_gt hl5 | exact Nat.ne_of_lt hl5) _).get 1 rfl⟩ | go_keep)
          (first
            | (go_at_call 25; refine (iadd_any _ _ _).mono ?_; rintro e w' ⟨rfl, rfl⟩)
            | (go_at_call 51; (with_reducible refine (NSA _ _ _ _ (O14.out.alloc _).drew.sl rfl (by omega)).mono ?_); rintro e w5 ⟨A5, c5, rfl, o5, b5⟩; have Q5 := Lib.hid ((QS4.out.alloc _).drew.below b5 (Nat.lt_trans QS4.out.lt (by simp))); have r0 : w5.cell? ⟨w1.heap.size, 0, none⟩ = some (.int .i64 cum) := Q5.out.get 0 rfl; have r1 : w5.cell? ⟨w1.heap.size, 1, none⟩ = some (.slice A1 zs.length c1) := Q5.out.get 1 rfl; have QX := Lib.hid ((Blk.new w4 #[.int .i64 0, .slice none 0 0] 26).drew.below b5 (by simp)); have f0 := QX.out.get 0 rfl; have f1 := QX.out.get 1 rfl; have ff0 := QX.out.frozen 0; have ff1 := QX.out.frozen 1; have hl6 := QX.out.lt; have B5 := Lib.hid (bstep (B4.out.alloc B4.out.size _).drew b5 (by have := B4.out.size; simp; omega)); clear b5 o5)
            | (go_at_call 51; (with_reducible refine (NSA _ _ _ _ O14.out.drew.sl rfl (by omega)).mono ?_); rintro e w5 ⟨A5, c5, rfl, o5, b5⟩; have Q5 := Lib.hid (QS4.out.drew.below b5 QS4.out.lt); have r0 : w5.cell? ⟨w1.heap.size, 0, none⟩ = some (.int .i64 cum) := Q5.out.get 0 rfl; have r1 : w5.cell? ⟨w1.heap.size, 1, none⟩ = some (.slice A1 zs.length c1) := Q5.out.get 1 rfl; have hl5 := Q5.out.lt; have B5 := Lib.hid (bstep B4.out.drew b5 B4.out.size); clear b5 o5))
        all_goals
          go_wp2_with (go_at_call 53; refine (iless_any _ _ _).mono ?_; rintro e w' ⟨rfl, rfl⟩; rw [p2])
          go_ret
          first
            | exact ⟨rfl, B5.out.alloc B5.out.size _⟩
            | exact ⟨rfl, (B5.out.setCell B4.out.size _).setCell B4.out.size _⟩
            | exact ⟨ret_bool (by simp), B5.out.alloc B5.out.size _⟩
            | exact ⟨ret_bool (by simp), (B5.out.setCell B4.out.size _).setCell B4.out.size _⟩
end Go.Proofs.Ytglebkjhfofkcaa
