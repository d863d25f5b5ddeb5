/-
  The walk of 'FnSeenAddTwice'. Condition: the code is a slice of bytes.
-/
import Derived.Test.YtglebkjhfofkcaaWFnSeenAddFar
import Derived.Test.YtglebkjhfofkcaaSame
import Derived.Test.YtglebkjhfofkcaaDrawS2
import Derived.Deep.RegionHeld3
namespace Go.Proofs.Ytglebkjhfofkcaa
open Go.ChangeShapes Go.WideShapes Go.ChangeAt Go.RowKit
set_option linter.unusedVariables false
theorem sa0_inv {cum : Int} {zs : List Int} {tsn : Int} (h : saCode cum zs tsn = 0) : seenOk cum zs = true ∧ okB tsn = true ∧ (decide (sdiff cum tsn ≤ 0) || hasB zs (sdiff cum tsn)) = false ∧ ¬ 16 < sdiff cum tsn := by
  by_cases h1 : seenOk cum zs = true
  · by_cases h2 : okB tsn = true
    · by_cases h3 : (decide (sdiff cum tsn ≤ 0) || hasB zs (sdiff cum tsn)) = true
      · rw [sa1 h1 h2 h3] at h; cases h
      · have h3 : (decide (sdiff cum tsn ≤ 0) || hasB zs (sdiff cum tsn)) = false := by simpa using h3
        by_cases h4 : 16 < sdiff cum tsn
        · rw [sa2 h1 h2 h3 h4] at h; cases h
        · exact ⟨h1, h2, h3, h4⟩
    · rw [sa3 (.inr (by simpa using h2))] at h; cases h
  · rw [sa3 (.inl (by simpa using h1))] at h; cases h
theorem asc_range (p : Nat → Bool) (m : Nat) : ∀ (n s : Nat) (low : Int), (∀ j : Nat, s ≤ j → p j = true → low ≤ (j : Int) - m) → s + n ≤ 17 → asc low (((List.range' s n).filter p).map fun (j : Nat) => (j : Int) - (m : Int)) = true
  | 0, s, low, _, _ => rfl
  | n + 1, s, low, h, hn => by
    rw [List.range'_succ, List.filter_cons]
    by_cases hp : p s = true
    · rw [if_pos hp, List.map_cons]
      unfold asc
      rw [Bool.and_eq_true]
      refine ⟨inB_mk ⟨h s (Nat.le_refl _) hp, by omega⟩, asc_range p m n (s + 1) _ (fun j hj _ => by omega) (by omega)⟩
    · rw [if_neg hp]
      exact asc_range p m n (s + 1) low (fun j hj hq => h j (by omega) hq) (by omega)
theorem twice_pure {cum : Int} {zs : List Int} {tsn : Int} (h : saCode cum zs tsn = 0) : saCode (saCum cum zs tsn) (saExtra cum zs tsn) tsn = 1 := by
  obtain ⟨h1, h2, h3, h4⟩ := sa0_inv h
  have e1 : saCum cum zs tsn = sadd cum (moved (saAll cum zs tsn)) := by unfold saCum; rw [h]; rfl
  have e2 : saExtra cum zs tsn = extraTo (saAll cum zs tsn) (moved (saAll cum zs tsn)) 17 := by unfold saExtra; rw [h]; rfl
  rw [e1, e2]
  have hd : hasB (saAll cum zs tsn) (sdiff cum tsn) = true := by rw [hasB_mem]; unfold saAll; simp
  have hd0 : 0 < sdiff cum tsn := by
    have := (Bool.or_eq_false_iff.1 h3).1
    have := of_decide_eq_false this
    omega
  have a17 := all17 h1 (show sdiff cum tsn ≤ 16 by omega)
  obtain ⟨ma, _, mc, _⟩ := moveN_spec (saAll cum zs tsn) 16 a17 16 0 (by omega) (by omega)
  change hasB (saAll cum zs tsn) ((moved (saAll cum zs tsn) : Nat) + 1 : Int) = false at ma
  change moved (saAll cum zs tsn) ≤ 16 at mc
  generalize moved (saAll cum zs tsn) = M at ma mc
  generalize saAll cum zs tsn = all at ma hd
  have hc := (seenOk_true h1).2
  have hok := okB_mk (sadd_range cum M hc)
  have hs : sdiff (sadd cum M) tsn = sdiff cum tsn - M := by
    obtain ⟨c0, c1⟩ := okB_true hc
    obtain ⟨t0, t1⟩ := okB_true h2
    rw [sadd_of cum M hc]
    revert hd0 h4
    unfold sdiff
    split <;> split <;> omega
  have hasc : asc 2 (extraTo all M 17) = true := by
    unfold extraTo
    rw [List.range_eq_range']
    refine asc_range _ M 17 0 2 (fun j _ hp => ?_) (by omega)
    rw [Bool.and_eq_true] at hp
    have hj := of_decide_eq_true hp.1
    by_cases hjm : j = M + 1
    · subst hjm
      have := hp.2
      rw [show ((M + 1 : Nat) : Int) = (M : Int) + 1 from by omega, ma] at this
      cases this
    · omega
  refine sa1 (by unfold seenOk; rw [hasc, hok]; rfl) h2 ?_
  rw [hs]
  by_cases hle : sdiff cum tsn ≤ M
  · rw [Bool.or_eq_true]; exact .inl (decide_eq_true (by omega))
  · rw [Bool.or_eq_true]
    refine .inr (hasB_mem.2 ?_)
    unfold extraTo
    rw [List.mem_map]
    refine ⟨(sdiff cum tsn).toNat, List.mem_filter.2 ⟨List.mem_range.2 (by omega), ?_⟩, by omega⟩
    rw [Bool.and_eq_true]
    refine ⟨decide_eq_true (by omega), ?_⟩
    rw [show (((sdiff cum tsn).toNat : Nat) : Int) = sdiff cum tsn from by omega]
    exact hd
set_option maxHeartbeats 1600000 in
theorem walkFnSeenAddTwice (A : Option Addr) (n c : Nat) (w : World) (h : Bts w A n c) :
    Calls Try.prog 13 #[.slice A n c] w fun e w' => e = .returned (.bool true) ∧ Below w.heap.size w w' := by
  have hle := h.le
  have H := Lib.hid h; clear h
  by_cases hn : 1048576 < n
  · go_enter Try.func13, Try.ntmps13
    go_wp2
    go_ret
    exact ⟨rfl, Below.refl _ _⟩
  · go_enter Try.func13, Try.ntmps13
    go_wp2_with fail
    refine (draw_seen_add _ _ _ _ H.out).mono ?_
    rintro e w1 ⟨cum, A1, n1, c1, zs, tsn, rfl, hzl, hn1, o1, b1⟩
    subst hzl
    have O1 := Lib.hid o1
    have B1 := Lib.hid b1
    have HEL := Lib.hid (sa_short cum zs tsn (by omega))
    obtain ⟨C, hC⟩ : ∃ C, C = saCum cum zs tsn := ⟨_, rfl⟩
    obtain ⟨E, hE⟩ : ∃ E, E = saExtra cum zs tsn := ⟨_, rfl⟩
    obtain ⟨K, hK⟩ : ∃ K, K = saCode cum zs tsn := ⟨_, rfl⟩
    have hcases := Lib.hid (fun (h : saCode cum zs tsn = 0) => twice_pure h)
    have ISA := Lib.hid (fun (A : Option Addr) (n c : Nat) (w : World) hs hn hm => iseen_add cum A n c zs tsn w hs hn hm)
    have SSA := Lib.hid (fun (A : Option Addr) (n c : Nat) (w : World) hs hn hm => sseen_add cum A n c zs tsn w hs hn hm)
    unfold SeenAddP at ISA SSA
    rw [← hC, ← hE, ← hK] at ISA SSA hcases
    rw [← hE] at HEL
    clear o1 b1 hC hE hK
    go_wp2_with fail
    refine (ISA.out _ _ _ _ ((O1.out.sl.alloc (Nat.le_refl _) _).more (by simp)) rfl (by omega)).mono ?_
    rintro e w2 ⟨A2, c2, rfl, o2, b2'⟩
    obtain ⟨q2, z2, b2⟩ := boxed b2'
    have O2 := Lib.hid o2
    have O12 := Lib.hid (O1.out.below b2 (Nat.le_refl _))
    have Q2 := Lib.hid q2
    have x0 := q2.get 0 rfl
    have x1 := q2.get 1 rfl
    have B2 := Lib.hid (bstep B1.out b2 B1.out.size)
    clear o2 b2' b2 q2
    go_wp2_with fail
    refine (SSA.out _ _ _ _ ((O12.out.sl.alloc (Nat.le_refl _) _).more (by simp)) rfl (by omega)).mono ?_
    rintro e w3 ⟨A3, c3, rfl, o3, b3'⟩
    obtain ⟨q3, z3, b3⟩ := boxed b3'
    have O3 := Lib.hid o3
    have O13 := Lib.hid (O12.out.below b3 (Nat.le_refl _))
    have O23 := Lib.hid (O2.out.below b3 (Nat.le_refl _))
    have Qs := Q2.out.below b3 Q2.out.lt
    have QS := Lib.hid Qs
    have QO := Lib.hid q3
    have x0 := Qs.get 0 rfl
    have x1 := Qs.get 1 rfl
    have y0 := q3.get 0 rfl
    have y1 := q3.get 1 rfl
    have B3 := Lib.hid (bstep B2.out b3 B2.out.size)
    clear o3 b3' b3 q3 Qs
    go_wp2_with fail
    refine (same_seen _ _ _ _ _ _ E _ ((O23.out.sl.alloc (Nat.le_refl _) _).more (by simp)) ((O3.out.sl.alloc (Nat.le_refl _) _).more (by simp)) rfl HEL.out).mono ?_
    rintro e w4 ⟨rfl, b4'⟩
    have B34 := Lib.hid b4'
    obtain ⟨q4, z4, b4⟩ := boxed b4'
    have Qs := QS.out.below b4 QS.out.lt
    have Qo := QO.out.below b4 QO.out.lt
    have QS4 := Lib.hid Qs
    have QO4 := Lib.hid Qo
    have O14 := Lib.hid (O13.out.below b4 (Nat.le_refl _))
    have O24 := Lib.hid (O23.out.below b4 (Nat.le_refl _))
    have O34 := Lib.hid ((O3.out.below (bstep ((Below.refl _ w3).alloc (Nat.le_refl _) _) (B34.out) (by simp)) (Nat.le_refl _)))
    have x0 := Qs.get 0 rfl
    have x1 := Qs.get 1 rfl
    have y0 := Qo.get 0 rfl
    have y1 := Qo.get 1 rfl
    have v0 := q4.get 0 rfl
    have v1 := q4.get 1 rfl
    have B4 := Lib.hid (bstep B3.out b4 B3.out.size)
    clear b4 b4' q4 Qs Qo
    simp only [List.getElem_toArray, List.getElem_cons_zero, List.getElem_cons_succ] at x0 x1 y0 y1 v0 v1
    by_cases h3 : K = 0
    · have p1 := hcases.out h3
      have NSA := fun (A : Option Addr) (n c : Nat) (w : World) hs hn hm => iseen_add C A n c E tsn w hs hn hm
      simp only [sap1 p1] at NSA
      subst h3
      clear hcases
      go_wp2_with fail
      refine (NSA _ _ _ _ O24.out.sl rfl HEL.out).mono ?_
      rintro e w5 ⟨A5, c5, rfl, o5, b5⟩
      have Qo5 := QO4.out.below b5 QO4.out.lt
      have y0 := Qo5.get 0 rfl
      have y1 := Qo5.get 1 rfl
      simp only [List.getElem_toArray, List.getElem_cons_zero, List.getElem_cons_succ] at y0 y1
      have O25 := Lib.hid (O24.out.below b5 (Nat.le_refl _))
      have O5 := Lib.hid o5
      have B5 := Lib.hid (bstep B4.out b5 B4.out.size)
      have hl5 := Qo5.lt
      clear b5 Qo5 o5 NSA
      go_wp2_with fail
      refine (same_seen _ _ _ _ _ _ E _ ((O5.out.sl.alloc (Nat.le_refl _) _).more (by simp)) ((O25.out.sl.alloc (Nat.le_refl _) _).more (by simp)) rfl HEL.out).mono ?_
      rintro e w6 ⟨rfl, b6⟩
      go_wp2
      go_ret
      exact ⟨ret_bool (by simp), bstep (B5.out.alloc B5.out.size _) b6 (by have := B5.out.size; simp; omega)⟩
    · have k7 : (K == 0) = false := by simp [h3]
      go_wp2_with fail
      refine (same_seen _ _ _ _ _ _ E _ (O24.out.sl) (O34.out.sl) rfl HEL.out).mono ?_
      rintro e w5 ⟨rfl, b5⟩
      go_wp2
      go_ret
      exact ⟨ret_bool (by simp), bstep B4.out b5 B4.out.size⟩
end Go.Proofs.Ytglebkjhfofkcaa
