/-
  The walk of 'FnExactAsmAdd'. Condition: the parts can be read.
-/
import Derived.Test.YtkhaodbcnnlhaaaAddI
import Derived.Test.YtkhaodbcnnlhaaaAddS
import Derived.Test.YtkhaodbcnnlhaaaMarkA
import Derived.Test.YtkhaodbcnnlhaaaAsmL
import Derived.Test.YtkhaodbcnnlhaaaFrameA
import Derived.Deep.RegionHeld3
import Derived.Deep.DeepCutAuto
namespace Go.Proofs.Ytkhaodbcnnlhaaa
open Go.ChangeShapes Go.WideShapes Go.ChangeAt Go.RowKit
set_option linter.unusedVariables false
set_option linter.unusedSimpArgs false
theorem capsOf {w : World} {base : Nat} {e : TypeId} {size n c : Nat} {A : Option Addr} {xs : List Value} (h : Own w base e size A n c xs) : n ≤ c ∧ c ≤ 9223372036854775807 := by
  have := h.caps
  unfold maxLen at this
  exact this
set_option maxHeartbeats 12800000 in
set_option maxRecDepth 100000 in
theorem walkFnExactAsmAdd0 (A : Option Addr) (n c : Nat) (zs : List Int) (A2 : Option Addr) (m d : Nat) (ps : List Dat) (g0 g1 g2 : Int) (g3 g4 g5 : Bool) (g6 : ByteArray) (w : World) (hs : Sl w w.heap.size A (ints zs)) (hn : zs.length = n) (hc : n ≤ c) (hm : c ≤ maxLen) (hp : Sl w w.heap.size A2 (dats ps)) (hm2 : ps.length = m) (hcd : m ≤ d) (hmd : d ≤ maxLen) (ht : Dats ps) (hg : g6.size ≤ 9223372036854775807) :
    Calls Try.prog 4 #[.agg #[.slice A n c, .slice A2 m d], .agg #[.int .i64 g0, .int .i64 g1, .int .i64 g2, .bool g3, .bool g4, .bool g5, .string g6]] w fun e w' => e = .returned (.bool true) ∧ Below w.heap.size w w' := by
  have HS := Lib.hid hs; have HN := Lib.hid hn; have HP := Lib.hid hp; have HM := Lib.hid hm2; have HT := Lib.hid ht; clear hs hn hp hm2 ht
  have hn7 : n ≤ 9223372036854775807 := by unfold maxLen at hm; omega
  have hm7 : m ≤ 9223372036854775807 := by unfold maxLen at hmd; omega
  clear hc hm hcd hmd
  obtain ⟨R, hR⟩ : ∃ R, addA zs ps ⟨g0, g1, g2, g3, g4, g5, g6⟩ = R := ⟨_, rfl⟩
  have HR := Lib.hid hR
  obtain ⟨l1, l2, l3, _⟩ := add_lens (zs := zs) (ps := ps) (d := ⟨g0, g1, g2, g3, g4, g5, g6⟩)
  rw [hR] at l1 l2 l3
  rw [HN.out] at l1
  clear hR
  obtain ⟨nz, hnz⟩ : ∃ k, R.zs.length = k := ⟨_, rfl⟩
  obtain ⟨mp, hmp⟩ : ∃ k, R.ps.length = k := ⟨_, rfl⟩
  obtain ⟨qs, hqs⟩ : ∃ k, R.ms.length = k := ⟨_, rfl⟩
  rw [hnz] at l1
  rw [hmp] at l2
  rw [hqs] at l3
  have HNZ := Lib.hid hnz
  have HMP := Lib.hid hmp
  have HQS := Lib.hid hqs
  clear hnz hmp hqs
  go_enter Try.func4, Try.ntmps4
  go_wp2_with fail
  refine (sz_asm _ _ _ _ _ _ ps _ (((HP.out.alloc (Nat.le_refl _) _).alloc (by simp) _).more (by simp; omega)) HM.out hn7 hm7 HT.out).mono ?_
  rintro e w1 ⟨r, rfl, hr, b1'⟩
  obtain ⟨q1_0, q1_1, z1, b1⟩ := boxed2 b1'
  have s1 := b1.size
  have B1 := Lib.hid b1
  have le1 : w.heap.size ≤ w1.heap.size := by simpa using s1
  clear s1
  have Qa_1 := Lib.hid q1_0
  have Qb_1 := Lib.hid q1_1
  clear b1 b1' q1_0 q1_1
  have lb : w.heap.size + 1 < w1.heap.size := Qb_1.out.lt
  have cb0 : w1.cell? ⟨w.heap.size + 1, 0, none⟩ = some (.int .i64 g0) := Qb_1.out.get 0 rfl
  have cb1 : w1.cell? ⟨w.heap.size + 1, 1, none⟩ = some (.int .i64 g1) := Qb_1.out.get 1 rfl
  have cb2 : w1.cell? ⟨w.heap.size + 1, 2, none⟩ = some (.int .i64 g2) := Qb_1.out.get 2 rfl
  have cb3 : w1.cell? ⟨w.heap.size + 1, 3, none⟩ = some (.bool g3) := Qb_1.out.get 3 rfl
  have cb4 : w1.cell? ⟨w.heap.size + 1, 4, none⟩ = some (.bool g4) := Qb_1.out.get 4 rfl
  have cb5 : w1.cell? ⟨w.heap.size + 1, 5, none⟩ = some (.bool g5) := Qb_1.out.get 5 rfl
  have cb6 : w1.cell? ⟨w.heap.size + 1, 6, none⟩ = some (.string g6) := Qb_1.out.get 6 rfl
  rcases hr with rfl | ⟨r1, r2, hn6, hm6⟩
  · go_wp2
    go_ret
    exact ⟨rfl, B1.out⟩
  have hr0 : ¬ r < 0 := by omega
  obtain ⟨v, hv⟩ : ∃ v, (if r < (g6.size : Int) then -1 else r - (g6.size : Int)) = v := ⟨_, rfl⟩
  have hv2 : v = -1 ∨ 0 ≤ v := by rw [← hv]; split <;> omega
  have IZ := Lib.hid (fun w => sz_data g0 g1 g2 g3 g4 g5 g6 r w ⟨r1, r2⟩ hg)
  simp only [hv] at IZ
  clear hv
  go_wp2_with fail
  refine (IZ.out _).mono ?_
  rintro e w2 ⟨rfl, b2⟩
  clear lb cb0 cb1 cb2 cb3 cb4 cb5 cb6
  have Qa_2 := Lib.hid (Qa_1.out.below b2 Qa_1.out.lt)
  have Qb_2 := Lib.hid (Qb_1.out.below b2 Qb_1.out.lt)
  have s2 := b2.size
  have B2 := Lib.hid (bstep B1.out b2 B1.out.size)
  have le2 : w1.heap.size ≤ w2.heap.size := by simpa using s2
  clear s2
  clear b2
  rcases hv2 with rfl | hv2
  · go_wp2
    go_ret
    exact ⟨rfl, B2.out⟩
  have hv0 : ¬ v < 0 := by omega
  clear IZ
  have la : w.heap.size < w2.heap.size := Qa_2.out.lt
  have ca0 : w2.cell? ⟨w.heap.size, 0, none⟩ = some (.slice A n c) := Qa_2.out.get 0 rfl
  have ca1 : w2.cell? ⟨w.heap.size, 1, none⟩ = some (.slice A2 m d) := Qa_2.out.get 1 rfl
  have lb : w.heap.size + 1 < w2.heap.size := Qb_2.out.lt
  have cb0 : w2.cell? ⟨w.heap.size + 1, 0, none⟩ = some (.int .i64 g0) := Qb_2.out.get 0 rfl
  have cb1 : w2.cell? ⟨w.heap.size + 1, 1, none⟩ = some (.int .i64 g1) := Qb_2.out.get 1 rfl
  have cb2 : w2.cell? ⟨w.heap.size + 1, 2, none⟩ = some (.int .i64 g2) := Qb_2.out.get 2 rfl
  have cb3 : w2.cell? ⟨w.heap.size + 1, 3, none⟩ = some (.bool g3) := Qb_2.out.get 3 rfl
  have cb4 : w2.cell? ⟨w.heap.size + 1, 4, none⟩ = some (.bool g4) := Qb_2.out.get 4 rfl
  have cb5 : w2.cell? ⟨w.heap.size + 1, 5, none⟩ = some (.bool g5) := Qb_2.out.get 5 rfl
  have cb6 : w2.cell? ⟨w.heap.size + 1, 6, none⟩ = some (.string g6) := Qb_2.out.get 6 rfl
  go_upto_region 8 with fail
  clear la ca0 ca1 lb cb0 cb1 cb2 cb3 cb4 cb5 cb6
  have la : w.heap.size < w2.heap.size := Qa_2.out.lt
  have ca0 : w2.cell? ⟨w.heap.size, 0, none⟩ = some (.slice A n c) := Qa_2.out.get 0 rfl
  have ca1 : w2.cell? ⟨w.heap.size, 1, none⟩ = some (.slice A2 m d) := Qa_2.out.get 1 rfl
  have lb : w.heap.size + 1 < w2.heap.size := Qb_2.out.lt
  have cb0 : w2.cell? ⟨w.heap.size + 1, 0, none⟩ = some (.int .i64 g0) := Qb_2.out.get 0 rfl
  have cb1 : w2.cell? ⟨w.heap.size + 1, 1, none⟩ = some (.int .i64 g1) := Qb_2.out.get 1 rfl
  have cb2 : w2.cell? ⟨w.heap.size + 1, 2, none⟩ = some (.int .i64 g2) := Qb_2.out.get 2 rfl
  have cb3 : w2.cell? ⟨w.heap.size + 1, 3, none⟩ = some (.bool g3) := Qb_2.out.get 3 rfl
  have cb4 : w2.cell? ⟨w.heap.size + 1, 4, none⟩ = some (.bool g4) := Qb_2.out.get 4 rfl
  have cb5 : w2.cell? ⟨w.heap.size + 1, 5, none⟩ = some (.bool g5) := Qb_2.out.get 5 rfl
  have cb6 : w2.cell? ⟨w.heap.size + 1, 6, none⟩ = some (.string g6) := Qb_2.out.get 6 rfl
  go_cut [6, 7, 8] (fun v6 v7 v8 wx => AddedTo R w2 v6 v7 v8 wx)
  case first =>
    refine wp_region_held_drew (S := fun w' => w'.cell? ⟨w.heap.size, 0, none⟩ = some (.slice A n c) ∧ w'.cell? ⟨w.heap.size, 1, none⟩ = some (.slice A2 m d) ∧ w'.cell? ⟨w.heap.size + 1, 0, none⟩ = some (.int .i64 g0) ∧ w'.cell? ⟨w.heap.size + 1, 1, none⟩ = some (.int .i64 g1) ∧ w'.cell? ⟨w.heap.size + 1, 2, none⟩ = some (.int .i64 g2) ∧ w'.cell? ⟨w.heap.size + 1, 3, none⟩ = some (.bool g3) ∧ w'.cell? ⟨w.heap.size + 1, 4, none⟩ = some (.bool g4) ∧ w'.cell? ⟨w.heap.size + 1, 5, none⟩ = some (.bool g5) ∧ w'.cell? ⟨w.heap.size + 1, 6, none⟩ = some (.string g6)) (by kernel_rfl) (by first | exact ⟨ca0, ca1, cb0, cb1, cb2, cb3, cb4, cb5, cb6⟩ | go_keep) (fun hHeld => ?_)
    refine wpAnyH_take (i := 0) (oi := ⟨some 30, _, _, _, _, _⟩) (v := ?_) rfl (by kernel_rfl) (by kernel_rfl) (by kernel_rfl) (fun _ _ _ h => h) (Or.inl ⟨by kernel_rfl, ?y1⟩) (by assumption) ?_
    case y1 => (intro w hSw; (try dsimp only at hSw); first | (go_simp; done) | (go_simp; with_reducible rfl))
    simp only [Act.put, List.setIfInBounds_toArray, List.set_cons_zero, List.set_cons_succ]
    refine wpAnyH_take (i := 2) (oi := ⟨some 32, _, _, _, _, _⟩) (v := ?_) rfl (by kernel_rfl) (by kernel_rfl) (by kernel_rfl) (fun _ _ _ h => h) (Or.inl ⟨by kernel_rfl, ?y2⟩) (by assumption) ?_
    case y2 => (intro w hSw; (try dsimp only at hSw); first | (go_simp; done) | (go_simp; with_reducible rfl))
    simp only [Act.put, List.setIfInBounds_toArray, List.set_cons_zero, List.set_cons_succ]
    refine wpAnyH_ready (rs := [1, 9]) (by kernel_rfl) (by simp) ?_
    refine AllReadyH.cons (o := ⟨some 31, _, _, _, _, _⟩) rfl (fun K hK => ?_) ?_
    · skip
      (go_simp; go_at_call 18; (with_reducible refine (to_asm _ _ _ zs _ _ _ ps _ ((HS.out.below (B2.out.drew) (Nat.le_refl _)).more (B2.out.drew).size) ((HP.out.below (B2.out.drew) (Nat.le_refl _)).more (B2.out.drew).size) HN.out HM.out hn6 hm6).mono ?_); rintro e x2_1 ⟨A2_1, c2_1, B2_1, d2_1, rfl, o2_1, p2_1, b2_1⟩; have Bw2_1 := Lib.hid (bstep (B2.out.drew) b2_1 (B2.out.drew).size); have Bo2_1 := Lib.hid (bstep ((Below.refl w2.heap.size w2).drew) b2_1 ((Below.refl w2.heap.size w2).drew).size); have z2_1 : w2.heap.size ≤ x2_1.heap.size := Bo2_1.out.size; have Qa2_1 := Lib.hid ((Qa_2.out.drew).below b2_1 (Qa_2.out.drew).lt); have Qb2_1 := Lib.hid ((Qb_2.out.drew).below b2_1 (Qb_2.out.drew).lt); have Oi2_1 := Lib.hid o2_1; have Op2_1 := Lib.hid p2_1; have k2_1 := capsOf p2_1; clear o2_1 p2_1; first | go_wp2_with fail | skip)
      refine hK.out _ _ (by first | exact ⟨(Qa2_1.out).get 0 rfl, (Qa2_1.out).get 1 rfl, (Qb2_1.out).get 0 rfl, (Qb2_1.out).get 1 rfl, (Qb2_1.out).get 2 rfl, (Qb2_1.out).get 3 rfl, (Qb2_1.out).get 4 rfl, (Qb2_1.out).get 5 rfl, (Qb2_1.out).get 6 rfl⟩) (fun hHeld => ?_)
      clear hK K
      try simp only [Act.put, List.setIfInBounds_toArray, List.set_cons_zero, List.set_cons_succ]
      refine wpAnyH_ready (rs := [3, 9]) (by kernel_rfl) (by simp) ?_
      refine AllReadyH.cons (o := ⟨some 33, _, _, _, _, _⟩) rfl (fun K hK => ?_) ?_
      · skip
        (go_simp; go_at_call 19; (with_reducible refine (to_data g0 g1 g2 g3 g4 g5 g6 _).mono ?_); rintro e x2_2 ⟨rfl, b2_2⟩; have Bw2_2 := Lib.hid (bstep (Bw2_1.out) b2_2 (Bw2_1.out).size); have Bo2_2 := Lib.hid (bstep (Bo2_1.out) b2_2 (Bo2_1.out).size); have z2_2 : w2.heap.size ≤ x2_2.heap.size := Bo2_2.out.size; have Qa2_2 := Lib.hid ((Qa2_1.out).below b2_2 (Qa2_1.out).lt); have Qb2_2 := Lib.hid ((Qb2_1.out).below b2_2 (Qb2_1.out).lt); have Oi2_2 := Lib.hid ((Oi2_1.out).below b2_2 (Nat.le_refl _)); have Op2_2 := Lib.hid ((Op2_1.out).below b2_2 (Nat.le_refl _)); first | go_wp2_with fail | skip)
        refine hK.out _ _ (by first | exact ⟨(Qa2_2.out).get 0 rfl, (Qa2_2.out).get 1 rfl, (Qb2_2.out).get 0 rfl, (Qb2_2.out).get 1 rfl, (Qb2_2.out).get 2 rfl, (Qb2_2.out).get 3 rfl, (Qb2_2.out).get 4 rfl, (Qb2_2.out).get 5 rfl, (Qb2_2.out).get 6 rfl⟩) (fun hHeld => ?_)
        clear hK K
        try simp only [Act.put, List.setIfInBounds_toArray, List.set_cons_zero, List.set_cons_succ]
        refine wpAnyH_ready (rs := [4, 9]) (by kernel_rfl) (by simp) ?_
        refine AllReadyH.cons (o := ⟨some 34, _, _, _, _, _⟩) rfl (fun K hK => ?_) ?_
        · skip
          (go_simp; go_at_call 17; (with_reducible refine (sasm_add _ _ _ zs _ _ _ ps g0 g1 g2 g3 g4 g5 g6 HR.out _ (Oi2_2.out).sl (Op2_2.out).sl HN.out HM.out hn7 k2_1.1 k2_1.2 HT.out hg).mono ?_); rintro e x2_3 ⟨A2_3, n2_3, c2_3, B2_3, m2_3, d2_3, C2_3, q2_3, e2_3, rfl, h12_3, h22_3, h32_3, o12_3, o32_3, os2_3, b2_3⟩; have Bw2_3 := Lib.hid (bstep (Bw2_2.out) b2_3 (Bw2_2.out).size); have Bo2_3 := Lib.hid (bstep (Bo2_2.out) b2_3 (Bo2_2.out).size); have z2_3 : w2.heap.size ≤ x2_3.heap.size := Bo2_3.out.size; have Qa2_3 := Lib.hid ((Qa2_2.out).below b2_3 (Qa2_2.out).lt); have Qb2_3 := Lib.hid ((Qb2_2.out).below b2_3 (Qb2_2.out).lt); have Oi2_3 := Lib.hid ((Oi2_2.out).below b2_3 (Nat.le_refl _)); have Op2_3 := Lib.hid ((Op2_2.out).below b2_3 (Nat.le_refl _)); first | go_wp2_with fail | skip)
          refine hK.out _ _ (by first | exact ⟨(Qa2_3.out).get 0 rfl, (Qa2_3.out).get 1 rfl, (Qb2_3.out).get 0 rfl, (Qb2_3.out).get 1 rfl, (Qb2_3.out).get 2 rfl, (Qb2_3.out).get 3 rfl, (Qb2_3.out).get 4 rfl, (Qb2_3.out).get 5 rfl, (Qb2_3.out).get 6 rfl⟩) (fun hHeld => ?_)
          clear hK K
          try simp only [Act.put, List.setIfInBounds_toArray, List.set_cons_zero, List.set_cons_succ]
          refine wpAnyH_take (i := 5) (oi := ⟨some 29, _, _, _, _, _⟩) (v := ?_) rfl (by kernel_rfl) (by kernel_rfl) (by kernel_rfl) (fun _ _ _ h => h) (Or.inl ⟨by kernel_rfl, ?y3⟩) (by assumption) ?_
          case y3 => (intro w hSw; (try dsimp only at hSw); first | (go_simp; done) | (go_simp; with_reducible rfl))
          simp only [Act.put, List.setIfInBounds_toArray, List.set_cons_zero, List.set_cons_succ]
          refine wpAnyH_take (i := 6) (oi := ⟨some 35, _, _, _, _, _⟩) (v := ?_) rfl (by kernel_rfl) (by kernel_rfl) (by kernel_rfl) (fun _ _ _ h => h) (Or.inl ⟨by kernel_rfl, ?y4⟩) (by assumption) ?_
          case y4 => (intro w hSw; (try dsimp only at hSw); first | (go_simp; done) | (go_simp; with_reducible rfl))
          simp only [Act.put, List.setIfInBounds_toArray, List.set_cons_zero, List.set_cons_succ]
          refine wpAnyH_take (i := 7) (oi := ⟨some 36, _, _, _, _, _⟩) (v := ?_) rfl (by kernel_rfl) (by kernel_rfl) (by kernel_rfl) (fun _ _ _ h => h) (Or.inl ⟨by kernel_rfl, ?y5⟩) (by assumption) ?_
          case y5 => (intro w hSw; (try dsimp only at hSw); first | (go_simp; done) | (go_simp; with_reducible rfl))
          simp only [Act.put, List.setIfInBounds_toArray, List.set_cons_zero, List.set_cons_succ]
          refine wpAnyH_take (i := 8) (oi := ⟨some 37, _, _, _, _, _⟩) (v := ?_) rfl (by kernel_rfl) (by kernel_rfl) (by kernel_rfl) (fun _ _ _ h => h) (Or.inl ⟨by kernel_rfl, ?y6⟩) (by assumption) ?_
          case y6 => (intro w hSw; (try dsimp only at hSw); first | (go_simp; done) | (go_simp; with_reducible rfl))
          simp only [Act.put, List.setIfInBounds_toArray, List.set_cons_zero, List.set_cons_succ]
          refine wpAnyH_ready (rs := [9]) (by kernel_rfl) (by simp) ?_
          refine AllReadyH.cons (o := ⟨some 6, _, _, _, _, _⟩) rfl (fun K hK => ?_) AllReadyH.nil
          go_simp
          refine hK.out _ _ (by first | exact ⟨((Qa2_3.out.alloc (.cells #[.slice none 0 0, .slice none 0 0] 41))).get 0 rfl, ((Qa2_3.out.alloc (.cells #[.slice none 0 0, .slice none 0 0] 41))).get 1 rfl, ((Qb2_3.out.alloc (.cells #[.slice none 0 0, .slice none 0 0] 41))).get 0 rfl, ((Qb2_3.out.alloc (.cells #[.slice none 0 0, .slice none 0 0] 41))).get 1 rfl, ((Qb2_3.out.alloc (.cells #[.slice none 0 0, .slice none 0 0] 41))).get 2 rfl, ((Qb2_3.out.alloc (.cells #[.slice none 0 0, .slice none 0 0] 41))).get 3 rfl, ((Qb2_3.out.alloc (.cells #[.slice none 0 0, .slice none 0 0] 41))).get 4 rfl, ((Qb2_3.out.alloc (.cells #[.slice none 0 0, .slice none 0 0] 41))).get 5 rfl, ((Qb2_3.out.alloc (.cells #[.slice none 0 0, .slice none 0 0] 41))).get 6 rfl⟩) (fun hHeld => ?_)
          clear hK K
          try simp only [Act.put, List.setIfInBounds_toArray, List.set_cons_zero, List.set_cons_succ]
          refine wpAnyH_ready (rs := [10]) (by kernel_rfl) (by simp) ?_
          refine AllReadyH.cons (o := ⟨none, _, _, _, _, _⟩) rfl (fun K hK => ?_) AllReadyH.nil
          go_simp
          refine hK.out _ _ (by first | exact ⟨(Qa2_3.out.alloc _).get 0 rfl, (Qa2_3.out.alloc _).get 1 rfl, (Qb2_3.out.alloc _).get 0 rfl, (Qb2_3.out.alloc _).get 1 rfl, (Qb2_3.out.alloc _).get 2 rfl, (Qb2_3.out.alloc _).get 3 rfl, (Qb2_3.out.alloc _).get 4 rfl, (Qb2_3.out.alloc _).get 5 rfl, (Qb2_3.out.alloc _).get 6 rfl⟩) (fun hHeld => ?_)
          clear hK K
          try simp only [Act.put, List.setIfInBounds_toArray, List.set_cons_zero, List.set_cons_succ]
          refine wpAnyH_take (i := 11) (oi := ⟨some 7, _, _, _, _, _⟩) (v := ?_) rfl (by kernel_rfl) (by kernel_rfl) (by kernel_rfl) (fun _ _ _ h => h) (Or.inl ⟨by kernel_rfl, ?y7⟩) (by assumption) ?_
          case y7 => (intro w hSw; (try dsimp only at hSw); first | (go_simp; done) | (go_simp; with_reducible rfl))
          simp only [Act.put, List.setIfInBounds_toArray, List.set_cons_zero, List.set_cons_succ]
          refine wpAnyH_take (i := 12) (oi := ⟨some 8, _, _, _, _, _⟩) (v := ?_) rfl (by kernel_rfl) (by kernel_rfl) (by kernel_rfl) (fun _ _ _ h => h) (Or.inl ⟨by kernel_rfl, ?y8⟩) (by assumption) ?_
          case y8 => (intro w hSw; (try dsimp only at hSw); first | (go_simp; done) | (go_simp; with_reducible rfl))
          simp only [Act.put, List.setIfInBounds_toArray, List.set_cons_zero, List.set_cons_succ]
          have FN := added_last (w0 := w2) ((Bo2_2.out).size) h12_3 h22_3 h32_3 o12_3 o32_3 os2_3 (Bo2_3.out)
          refine wpAnyH_done (by kernel_rfl) ?_ _
          go_wp2_with fail
          go_meet
          exact FN
        refine AllReadyH.cons (o := ⟨some 6, _, _, _, _, _⟩) rfl (fun K hK => ?_) ?_
        · skip
          go_simp
          refine hK.out _ _ (by first | exact ⟨((Qa2_2.out.alloc (.cells #[.slice none 0 0, .slice none 0 0] 41))).get 0 rfl, ((Qa2_2.out.alloc (.cells #[.slice none 0 0, .slice none 0 0] 41))).get 1 rfl, ((Qb2_2.out.alloc (.cells #[.slice none 0 0, .slice none 0 0] 41))).get 0 rfl, ((Qb2_2.out.alloc (.cells #[.slice none 0 0, .slice none 0 0] 41))).get 1 rfl, ((Qb2_2.out.alloc (.cells #[.slice none 0 0, .slice none 0 0] 41))).get 2 rfl, ((Qb2_2.out.alloc (.cells #[.slice none 0 0, .slice none 0 0] 41))).get 3 rfl, ((Qb2_2.out.alloc (.cells #[.slice none 0 0, .slice none 0 0] 41))).get 4 rfl, ((Qb2_2.out.alloc (.cells #[.slice none 0 0, .slice none 0 0] 41))).get 5 rfl, ((Qb2_2.out.alloc (.cells #[.slice none 0 0, .slice none 0 0] 41))).get 6 rfl⟩) (fun hHeld => ?_)
          clear hK K
          try simp only [Act.put, List.setIfInBounds_toArray, List.set_cons_zero, List.set_cons_succ]
          refine wpAnyH_ready (rs := [4]) (by kernel_rfl) (by simp) ?_
          refine AllReadyH.cons (o := ⟨some 34, _, _, _, _, _⟩) rfl (fun K hK => ?_) AllReadyH.nil
          (go_simp; go_at_call 17; (with_reducible refine (sasm_add _ _ _ zs _ _ _ ps g0 g1 g2 g3 g4 g5 g6 HR.out _ ((Oi2_2.out.alloc (.cells #[.slice none 0 0, .slice none 0 0] 41))).sl ((Op2_2.out.alloc (.cells #[.slice none 0 0, .slice none 0 0] 41))).sl HN.out HM.out hn7 k2_1.1 k2_1.2 HT.out hg).mono ?_); rintro e x2_4 ⟨A2_4, n2_4, c2_4, B2_4, m2_4, d2_4, C2_4, q2_4, e2_4, rfl, h12_4, h22_4, h32_4, o12_4, o32_4, os2_4, b2_4⟩; have Bw2_4 := Lib.hid (bstep (((Bw2_2.out).alloc (Bw2_2.out).size (.cells #[.slice none 0 0, .slice none 0 0] 41))) b2_4 (((Bw2_2.out).alloc (Bw2_2.out).size (.cells #[.slice none 0 0, .slice none 0 0] 41))).size); have Bo2_4 := Lib.hid (bstep (((Bo2_2.out).alloc (Bo2_2.out).size (.cells #[.slice none 0 0, .slice none 0 0] 41))) b2_4 (((Bo2_2.out).alloc (Bo2_2.out).size (.cells #[.slice none 0 0, .slice none 0 0] 41))).size); have z2_4 : w2.heap.size ≤ x2_4.heap.size := Bo2_4.out.size; have Qa2_4 := Lib.hid (((Qa2_2.out.alloc (.cells #[.slice none 0 0, .slice none 0 0] 41))).below b2_4 ((Qa2_2.out.alloc (.cells #[.slice none 0 0, .slice none 0 0] 41))).lt); have Qb2_4 := Lib.hid (((Qb2_2.out.alloc (.cells #[.slice none 0 0, .slice none 0 0] 41))).below b2_4 ((Qb2_2.out.alloc (.cells #[.slice none 0 0, .slice none 0 0] 41))).lt); have Oi2_4 := Lib.hid (((Oi2_2.out.alloc (.cells #[.slice none 0 0, .slice none 0 0] 41))).below b2_4 (Nat.le_refl _)); have Op2_4 := Lib.hid (((Op2_2.out.alloc (.cells #[.slice none 0 0, .slice none 0 0] 41))).below b2_4 (Nat.le_refl _)); have N2_4 := Lib.hid (((Blk.new x2_2 #[.slice none 0 0, .slice none 0 0] 41)).below b2_4 ((Blk.new x2_2 #[.slice none 0 0, .slice none 0 0] 41)).lt); have nf0 := N2_4.out.frozen 0; have nf1 := N2_4.out.frozen 1; have nl := N2_4.out.lt; have nn0 := N2_4.out.get 0 rfl; have nn1 := N2_4.out.get 1 rfl; first | go_wp2_with fail | skip)
          refine hK.out _ _ (by first | exact ⟨(Qa2_4.out).get 0 rfl, (Qa2_4.out).get 1 rfl, (Qb2_4.out).get 0 rfl, (Qb2_4.out).get 1 rfl, (Qb2_4.out).get 2 rfl, (Qb2_4.out).get 3 rfl, (Qb2_4.out).get 4 rfl, (Qb2_4.out).get 5 rfl, (Qb2_4.out).get 6 rfl⟩) (fun hHeld => ?_)
          clear hK K
          try simp only [Act.put, List.setIfInBounds_toArray, List.set_cons_zero, List.set_cons_succ]
          refine wpAnyH_take (i := 5) (oi := ⟨some 29, _, _, _, _, _⟩) (v := ?_) rfl (by kernel_rfl) (by kernel_rfl) (by kernel_rfl) (fun _ _ _ h => h) (Or.inl ⟨by kernel_rfl, ?y9⟩) (by assumption) ?_
          case y9 => (intro w hSw; (try dsimp only at hSw); first | (go_simp; done) | (go_simp; with_reducible rfl))
          simp only [Act.put, List.setIfInBounds_toArray, List.set_cons_zero, List.set_cons_succ]
          refine wpAnyH_take (i := 6) (oi := ⟨some 35, _, _, _, _, _⟩) (v := ?_) rfl (by kernel_rfl) (by kernel_rfl) (by kernel_rfl) (fun _ _ _ h => h) (Or.inl ⟨by kernel_rfl, ?y10⟩) (by assumption) ?_
          case y10 => (intro w hSw; (try dsimp only at hSw); first | (go_simp; done) | (go_simp; with_reducible rfl))
          simp only [Act.put, List.setIfInBounds_toArray, List.set_cons_zero, List.set_cons_succ]
          refine wpAnyH_take (i := 7) (oi := ⟨some 36, _, _, _, _, _⟩) (v := ?_) rfl (by kernel_rfl) (by kernel_rfl) (by kernel_rfl) (fun _ _ _ h => h) (Or.inl ⟨by kernel_rfl, ?y11⟩) (by assumption) ?_
          case y11 => (intro w hSw; (try dsimp only at hSw); first | (go_simp; done) | (go_simp; with_reducible rfl))
          simp only [Act.put, List.setIfInBounds_toArray, List.set_cons_zero, List.set_cons_succ]
          refine wpAnyH_take (i := 8) (oi := ⟨some 37, _, _, _, _, _⟩) (v := ?_) rfl (by kernel_rfl) (by kernel_rfl) (by kernel_rfl) (fun _ _ _ h => h) (Or.inl ⟨by kernel_rfl, ?y12⟩) (by assumption) ?_
          case y12 => (intro w hSw; (try dsimp only at hSw); first | (go_simp; done) | (go_simp; with_reducible rfl))
          simp only [Act.put, List.setIfInBounds_toArray, List.set_cons_zero, List.set_cons_succ]
          refine wpAnyH_ready (rs := [10]) (by kernel_rfl) (by simp) ?_
          refine AllReadyH.cons (o := ⟨none, _, _, _, _, _⟩) rfl (fun K hK => ?_) AllReadyH.nil
          go_simp
          refine hK.out _ _ (by first | exact ⟨((Qa2_4.out.far (p := ⟨x2_2.heap.size, 0, none⟩) (by show w.heap.size ≠ x2_2.heap.size; omega) (.slice A2_4 n2_4 c2_4)).far (p := ⟨x2_2.heap.size, 1, none⟩) (by show w.heap.size ≠ x2_2.heap.size; omega) (.slice B2_4 m2_4 d2_4)).get 0 rfl, ((Qa2_4.out.far (p := ⟨x2_2.heap.size, 0, none⟩) (by show w.heap.size ≠ x2_2.heap.size; omega) (.slice A2_4 n2_4 c2_4)).far (p := ⟨x2_2.heap.size, 1, none⟩) (by show w.heap.size ≠ x2_2.heap.size; omega) (.slice B2_4 m2_4 d2_4)).get 1 rfl, ((Qb2_4.out.far (p := ⟨x2_2.heap.size, 0, none⟩) (by show w.heap.size + 1 ≠ x2_2.heap.size; omega) (.slice A2_4 n2_4 c2_4)).far (p := ⟨x2_2.heap.size, 1, none⟩) (by show w.heap.size + 1 ≠ x2_2.heap.size; omega) (.slice B2_4 m2_4 d2_4)).get 0 rfl, ((Qb2_4.out.far (p := ⟨x2_2.heap.size, 0, none⟩) (by show w.heap.size + 1 ≠ x2_2.heap.size; omega) (.slice A2_4 n2_4 c2_4)).far (p := ⟨x2_2.heap.size, 1, none⟩) (by show w.heap.size + 1 ≠ x2_2.heap.size; omega) (.slice B2_4 m2_4 d2_4)).get 1 rfl, ((Qb2_4.out.far (p := ⟨x2_2.heap.size, 0, none⟩) (by show w.heap.size + 1 ≠ x2_2.heap.size; omega) (.slice A2_4 n2_4 c2_4)).far (p := ⟨x2_2.heap.size, 1, none⟩) (by show w.heap.size + 1 ≠ x2_2.heap.size; omega) (.slice B2_4 m2_4 d2_4)).get 2 rfl, ((Qb2_4.out.far (p := ⟨x2_2.heap.size, 0, none⟩) (by show w.heap.size + 1 ≠ x2_2.heap.size; omega) (.slice A2_4 n2_4 c2_4)).far (p := ⟨x2_2.heap.size, 1, none⟩) (by show w.heap.size + 1 ≠ x2_2.heap.size; omega) (.slice B2_4 m2_4 d2_4)).get 3 rfl, ((Qb2_4.out.far (p := ⟨x2_2.heap.size, 0, none⟩) (by show w.heap.size + 1 ≠ x2_2.heap.size; omega) (.slice A2_4 n2_4 c2_4)).far (p := ⟨x2_2.heap.size, 1, none⟩) (by show w.heap.size + 1 ≠ x2_2.heap.size; omega) (.slice B2_4 m2_4 d2_4)).get 4 rfl, ((Qb2_4.out.far (p := ⟨x2_2.heap.size, 0, none⟩) (by show w.heap.size + 1 ≠ x2_2.heap.size; omega) (.slice A2_4 n2_4 c2_4)).far (p := ⟨x2_2.heap.size, 1, none⟩) (by show w.heap.size + 1 ≠ x2_2.heap.size; omega) (.slice B2_4 m2_4 d2_4)).get 5 rfl, ((Qb2_4.out.far (p := ⟨x2_2.heap.size, 0, none⟩) (by show w.heap.size + 1 ≠ x2_2.heap.size; omega) (.slice A2_4 n2_4 c2_4)).far (p := ⟨x2_2.heap.size, 1, none⟩) (by show w.heap.size + 1 ≠ x2_2.heap.size; omega) (.slice B2_4 m2_4 d2_4)).get 6 rfl⟩) (fun hHeld => ?_)
          clear hK K
          try simp only [Act.put, List.setIfInBounds_toArray, List.set_cons_zero, List.set_cons_succ]
          refine wpAnyH_take (i := 11) (oi := ⟨some 7, _, _, _, _, _⟩) (v := ?_) rfl (by kernel_rfl) (by kernel_rfl) (by kernel_rfl) (fun _ _ _ h => h) (Or.inl ⟨by kernel_rfl, ?y13⟩) (by assumption) ?_
          case y13 => (intro w hSw; (try dsimp only at hSw); first | (go_simp; done) | (go_simp; with_reducible rfl))
          simp only [Act.put, List.setIfInBounds_toArray, List.set_cons_zero, List.set_cons_succ]
          refine wpAnyH_take (i := 12) (oi := ⟨some 8, _, _, _, _, _⟩) (v := ?_) rfl (by kernel_rfl) (by kernel_rfl) (by kernel_rfl) (fun _ _ _ h => h) (Or.inl ⟨by kernel_rfl, ?y14⟩) (by assumption) ?_
          case y14 => (intro w hSw; (try dsimp only at hSw); first | (go_simp; done) | (go_simp; with_reducible rfl))
          simp only [Act.put, List.setIfInBounds_toArray, List.set_cons_zero, List.set_cons_succ]
          have FN := added_first (w0 := w2) ((((Bo2_2.out).alloc (Bo2_2.out).size (.cells #[.slice none 0 0, .slice none 0 0] 41))).size) h12_4 h22_4 h32_4 o12_4 o32_4 os2_4 (Bo2_4.out) (N2_4.out) ((Bo2_2.out).size)
          refine wpAnyH_done (by kernel_rfl) ?_ _
          go_wp2_with fail
          go_meet
          exact FN
        exact AllReadyH.nil
      refine AllReadyH.cons (o := ⟨some 6, _, _, _, _, _⟩) rfl (fun K hK => ?_) ?_
      · skip
        go_simp
        refine hK.out _ _ (by first | exact ⟨((Qa2_1.out.alloc (.cells #[.slice none 0 0, .slice none 0 0] 41))).get 0 rfl, ((Qa2_1.out.alloc (.cells #[.slice none 0 0, .slice none 0 0] 41))).get 1 rfl, ((Qb2_1.out.alloc (.cells #[.slice none 0 0, .slice none 0 0] 41))).get 0 rfl, ((Qb2_1.out.alloc (.cells #[.slice none 0 0, .slice none 0 0] 41))).get 1 rfl, ((Qb2_1.out.alloc (.cells #[.slice none 0 0, .slice none 0 0] 41))).get 2 rfl, ((Qb2_1.out.alloc (.cells #[.slice none 0 0, .slice none 0 0] 41))).get 3 rfl, ((Qb2_1.out.alloc (.cells #[.slice none 0 0, .slice none 0 0] 41))).get 4 rfl, ((Qb2_1.out.alloc (.cells #[.slice none 0 0, .slice none 0 0] 41))).get 5 rfl, ((Qb2_1.out.alloc (.cells #[.slice none 0 0, .slice none 0 0] 41))).get 6 rfl⟩) (fun hHeld => ?_)
        clear hK K
        try simp only [Act.put, List.setIfInBounds_toArray, List.set_cons_zero, List.set_cons_succ]
        refine wpAnyH_ready (rs := [3]) (by kernel_rfl) (by simp) ?_
        refine AllReadyH.cons (o := ⟨some 33, _, _, _, _, _⟩) rfl (fun K hK => ?_) AllReadyH.nil
        (go_simp; go_at_call 19; (with_reducible refine (to_data g0 g1 g2 g3 g4 g5 g6 _).mono ?_); rintro e x2_5 ⟨rfl, b2_5⟩; have Bw2_5 := Lib.hid (bstep (((Bw2_1.out).alloc (Bw2_1.out).size (.cells #[.slice none 0 0, .slice none 0 0] 41))) b2_5 (((Bw2_1.out).alloc (Bw2_1.out).size (.cells #[.slice none 0 0, .slice none 0 0] 41))).size); have Bo2_5 := Lib.hid (bstep (((Bo2_1.out).alloc (Bo2_1.out).size (.cells #[.slice none 0 0, .slice none 0 0] 41))) b2_5 (((Bo2_1.out).alloc (Bo2_1.out).size (.cells #[.slice none 0 0, .slice none 0 0] 41))).size); have z2_5 : w2.heap.size ≤ x2_5.heap.size := Bo2_5.out.size; have Qa2_5 := Lib.hid (((Qa2_1.out.alloc (.cells #[.slice none 0 0, .slice none 0 0] 41))).below b2_5 ((Qa2_1.out.alloc (.cells #[.slice none 0 0, .slice none 0 0] 41))).lt); have Qb2_5 := Lib.hid (((Qb2_1.out.alloc (.cells #[.slice none 0 0, .slice none 0 0] 41))).below b2_5 ((Qb2_1.out.alloc (.cells #[.slice none 0 0, .slice none 0 0] 41))).lt); have Oi2_5 := Lib.hid (((Oi2_1.out.alloc (.cells #[.slice none 0 0, .slice none 0 0] 41))).below b2_5 (Nat.le_refl _)); have Op2_5 := Lib.hid (((Op2_1.out.alloc (.cells #[.slice none 0 0, .slice none 0 0] 41))).below b2_5 (Nat.le_refl _)); have N2_5 := Lib.hid (((Blk.new x2_1 #[.slice none 0 0, .slice none 0 0] 41)).below b2_5 ((Blk.new x2_1 #[.slice none 0 0, .slice none 0 0] 41)).lt); first | go_wp2_with fail | skip)
        refine hK.out _ _ (by first | exact ⟨(Qa2_5.out).get 0 rfl, (Qa2_5.out).get 1 rfl, (Qb2_5.out).get 0 rfl, (Qb2_5.out).get 1 rfl, (Qb2_5.out).get 2 rfl, (Qb2_5.out).get 3 rfl, (Qb2_5.out).get 4 rfl, (Qb2_5.out).get 5 rfl, (Qb2_5.out).get 6 rfl⟩) (fun hHeld => ?_)
        clear hK K
        try simp only [Act.put, List.setIfInBounds_toArray, List.set_cons_zero, List.set_cons_succ]
        refine wpAnyH_ready (rs := [4]) (by kernel_rfl) (by simp) ?_
        refine AllReadyH.cons (o := ⟨some 34, _, _, _, _, _⟩) rfl (fun K hK => ?_) AllReadyH.nil
        (go_simp; go_at_call 17; (with_reducible refine (sasm_add _ _ _ zs _ _ _ ps g0 g1 g2 g3 g4 g5 g6 HR.out _ (Oi2_5.out).sl (Op2_5.out).sl HN.out HM.out hn7 k2_1.1 k2_1.2 HT.out hg).mono ?_); rintro e x2_6 ⟨A2_6, n2_6, c2_6, B2_6, m2_6, d2_6, C2_6, q2_6, e2_6, rfl, h12_6, h22_6, h32_6, o12_6, o32_6, os2_6, b2_6⟩; have Bw2_6 := Lib.hid (bstep (Bw2_5.out) b2_6 (Bw2_5.out).size); have Bo2_6 := Lib.hid (bstep (Bo2_5.out) b2_6 (Bo2_5.out).size); have z2_6 : w2.heap.size ≤ x2_6.heap.size := Bo2_6.out.size; have Qa2_6 := Lib.hid ((Qa2_5.out).below b2_6 (Qa2_5.out).lt); have Qb2_6 := Lib.hid ((Qb2_5.out).below b2_6 (Qb2_5.out).lt); have Oi2_6 := Lib.hid ((Oi2_5.out).below b2_6 (Nat.le_refl _)); have Op2_6 := Lib.hid ((Op2_5.out).below b2_6 (Nat.le_refl _)); have N2_6 := Lib.hid ((N2_5.out).below b2_6 (N2_5.out).lt); have nf0 := N2_6.out.frozen 0; have nf1 := N2_6.out.frozen 1; have nl := N2_6.out.lt; have nn0 := N2_6.out.get 0 rfl; have nn1 := N2_6.out.get 1 rfl; first | go_wp2_with fail | skip)
        refine hK.out _ _ (by first | exact ⟨(Qa2_6.out).get 0 rfl, (Qa2_6.out).get 1 rfl, (Qb2_6.out).get 0 rfl, (Qb2_6.out).get 1 rfl, (Qb2_6.out).get 2 rfl, (Qb2_6.out).get 3 rfl, (Qb2_6.out).get 4 rfl, (Qb2_6.out).get 5 rfl, (Qb2_6.out).get 6 rfl⟩) (fun hHeld => ?_)
        clear hK K
        try simp only [Act.put, List.setIfInBounds_toArray, List.set_cons_zero, List.set_cons_succ]
        refine wpAnyH_take (i := 5) (oi := ⟨some 29, _, _, _, _, _⟩) (v := ?_) rfl (by kernel_rfl) (by kernel_rfl) (by kernel_rfl) (fun _ _ _ h => h) (Or.inl ⟨by kernel_rfl, ?y15⟩) (by assumption) ?_
        case y15 => (intro w hSw; (try dsimp only at hSw); first | (go_simp; done) | (go_simp; with_reducible rfl))
        simp only [Act.put, List.setIfInBounds_toArray, List.set_cons_zero, List.set_cons_succ]
        refine wpAnyH_take (i := 6) (oi := ⟨some 35, _, _, _, _, _⟩) (v := ?_) rfl (by kernel_rfl) (by kernel_rfl) (by kernel_rfl) (fun _ _ _ h => h) (Or.inl ⟨by kernel_rfl, ?y16⟩) (by assumption) ?_
        case y16 => (intro w hSw; (try dsimp only at hSw); first | (go_simp; done) | (go_simp; with_reducible rfl))
        simp only [Act.put, List.setIfInBounds_toArray, List.set_cons_zero, List.set_cons_succ]
        refine wpAnyH_take (i := 7) (oi := ⟨some 36, _, _, _, _, _⟩) (v := ?_) rfl (by kernel_rfl) (by kernel_rfl) (by kernel_rfl) (fun _ _ _ h => h) (Or.inl ⟨by kernel_rfl, ?y17⟩) (by assumption) ?_
        case y17 => (intro w hSw; (try dsimp only at hSw); first | (go_simp; done) | (go_simp; with_reducible rfl))
        simp only [Act.put, List.setIfInBounds_toArray, List.set_cons_zero, List.set_cons_succ]
        refine wpAnyH_take (i := 8) (oi := ⟨some 37, _, _, _, _, _⟩) (v := ?_) rfl (by kernel_rfl) (by kernel_rfl) (by kernel_rfl) (fun _ _ _ h => h) (Or.inl ⟨by kernel_rfl, ?y18⟩) (by assumption) ?_
        case y18 => (intro w hSw; (try dsimp only at hSw); first | (go_simp; done) | (go_simp; with_reducible rfl))
        simp only [Act.put, List.setIfInBounds_toArray, List.set_cons_zero, List.set_cons_succ]
        refine wpAnyH_ready (rs := [10]) (by kernel_rfl) (by simp) ?_
        refine AllReadyH.cons (o := ⟨none, _, _, _, _, _⟩) rfl (fun K hK => ?_) AllReadyH.nil
        go_simp
        refine hK.out _ _ (by first | exact ⟨((Qa2_6.out.far (p := ⟨x2_1.heap.size, 0, none⟩) (by show w.heap.size ≠ x2_1.heap.size; omega) (.slice A2_6 n2_6 c2_6)).far (p := ⟨x2_1.heap.size, 1, none⟩) (by show w.heap.size ≠ x2_1.heap.size; omega) (.slice B2_6 m2_6 d2_6)).get 0 rfl, ((Qa2_6.out.far (p := ⟨x2_1.heap.size, 0, none⟩) (by show w.heap.size ≠ x2_1.heap.size; omega) (.slice A2_6 n2_6 c2_6)).far (p := ⟨x2_1.heap.size, 1, none⟩) (by show w.heap.size ≠ x2_1.heap.size; omega) (.slice B2_6 m2_6 d2_6)).get 1 rfl, ((Qb2_6.out.far (p := ⟨x2_1.heap.size, 0, none⟩) (by show w.heap.size + 1 ≠ x2_1.heap.size; omega) (.slice A2_6 n2_6 c2_6)).far (p := ⟨x2_1.heap.size, 1, none⟩) (by show w.heap.size + 1 ≠ x2_1.heap.size; omega) (.slice B2_6 m2_6 d2_6)).get 0 rfl, ((Qb2_6.out.far (p := ⟨x2_1.heap.size, 0, none⟩) (by show w.heap.size + 1 ≠ x2_1.heap.size; omega) (.slice A2_6 n2_6 c2_6)).far (p := ⟨x2_1.heap.size, 1, none⟩) (by show w.heap.size + 1 ≠ x2_1.heap.size; omega) (.slice B2_6 m2_6 d2_6)).get 1 rfl, ((Qb2_6.out.far (p := ⟨x2_1.heap.size, 0, none⟩) (by show w.heap.size + 1 ≠ x2_1.heap.size; omega) (.slice A2_6 n2_6 c2_6)).far (p := ⟨x2_1.heap.size, 1, none⟩) (by show w.heap.size + 1 ≠ x2_1.heap.size; omega) (.slice B2_6 m2_6 d2_6)).get 2 rfl, ((Qb2_6.out.far (p := ⟨x2_1.heap.size, 0, none⟩) (by show w.heap.size + 1 ≠ x2_1.heap.size; omega) (.slice A2_6 n2_6 c2_6)).far (p := ⟨x2_1.heap.size, 1, none⟩) (by show w.heap.size + 1 ≠ x2_1.heap.size; omega) (.slice B2_6 m2_6 d2_6)).get 3 rfl, ((Qb2_6.out.far (p := ⟨x2_1.heap.size, 0, none⟩) (by show w.heap.size + 1 ≠ x2_1.heap.size; omega) (.slice A2_6 n2_6 c2_6)).far (p := ⟨x2_1.heap.size, 1, none⟩) (by show w.heap.size + 1 ≠ x2_1.heap.size; omega) (.slice B2_6 m2_6 d2_6)).get 4 rfl, ((Qb2_6.out.far (p := ⟨x2_1.heap.size, 0, none⟩) (by show w.heap.size + 1 ≠ x2_1.heap.size; omega) (.slice A2_6 n2_6 c2_6)).far (p := ⟨x2_1.heap.size, 1, none⟩) (by show w.heap.size + 1 ≠ x2_1.heap.size; omega) (.slice B2_6 m2_6 d2_6)).get 5 rfl, ((Qb2_6.out.far (p := ⟨x2_1.heap.size, 0, none⟩) (by show w.heap.size + 1 ≠ x2_1.heap.size; omega) (.slice A2_6 n2_6 c2_6)).far (p := ⟨x2_1.heap.size, 1, none⟩) (by show w.heap.size + 1 ≠ x2_1.heap.size; omega) (.slice B2_6 m2_6 d2_6)).get 6 rfl⟩) (fun hHeld => ?_)
        clear hK K
        try simp only [Act.put, List.setIfInBounds_toArray, List.set_cons_zero, List.set_cons_succ]
        refine wpAnyH_take (i := 11) (oi := ⟨some 7, _, _, _, _, _⟩) (v := ?_) rfl (by kernel_rfl) (by kernel_rfl) (by kernel_rfl) (fun _ _ _ h => h) (Or.inl ⟨by kernel_rfl, ?y19⟩) (by assumption) ?_
        case y19 => (intro w hSw; (try dsimp only at hSw); first | (go_simp; done) | (go_simp; with_reducible rfl))
        simp only [Act.put, List.setIfInBounds_toArray, List.set_cons_zero, List.set_cons_succ]
        refine wpAnyH_take (i := 12) (oi := ⟨some 8, _, _, _, _, _⟩) (v := ?_) rfl (by kernel_rfl) (by kernel_rfl) (by kernel_rfl) (fun _ _ _ h => h) (Or.inl ⟨by kernel_rfl, ?y20⟩) (by assumption) ?_
        case y20 => (intro w hSw; (try dsimp only at hSw); first | (go_simp; done) | (go_simp; with_reducible rfl))
        simp only [Act.put, List.setIfInBounds_toArray, List.set_cons_zero, List.set_cons_succ]
        have FN := added_first (w0 := w2) ((Bo2_5.out).size) h12_6 h22_6 h32_6 o12_6 o32_6 os2_6 (Bo2_6.out) (N2_6.out) ((Bo2_1.out).size)
        refine wpAnyH_done (by kernel_rfl) ?_ _
        go_wp2_with fail
        go_meet
        exact FN
      exact AllReadyH.nil
    refine AllReadyH.cons (o := ⟨some 6, _, _, _, _, _⟩) rfl (fun K hK => ?_) ?_
    · skip
      go_simp
      refine hK.out _ _ (by first | exact ⟨((Qa_2.out.alloc (.cells #[.slice none 0 0, .slice none 0 0] 41)).drew).get 0 rfl, ((Qa_2.out.alloc (.cells #[.slice none 0 0, .slice none 0 0] 41)).drew).get 1 rfl, ((Qb_2.out.alloc (.cells #[.slice none 0 0, .slice none 0 0] 41)).drew).get 0 rfl, ((Qb_2.out.alloc (.cells #[.slice none 0 0, .slice none 0 0] 41)).drew).get 1 rfl, ((Qb_2.out.alloc (.cells #[.slice none 0 0, .slice none 0 0] 41)).drew).get 2 rfl, ((Qb_2.out.alloc (.cells #[.slice none 0 0, .slice none 0 0] 41)).drew).get 3 rfl, ((Qb_2.out.alloc (.cells #[.slice none 0 0, .slice none 0 0] 41)).drew).get 4 rfl, ((Qb_2.out.alloc (.cells #[.slice none 0 0, .slice none 0 0] 41)).drew).get 5 rfl, ((Qb_2.out.alloc (.cells #[.slice none 0 0, .slice none 0 0] 41)).drew).get 6 rfl⟩) (fun hHeld => ?_)
      clear hK K
      try simp only [Act.put, List.setIfInBounds_toArray, List.set_cons_zero, List.set_cons_succ]
      refine wpAnyH_ready (rs := [1]) (by kernel_rfl) (by simp) ?_
      refine AllReadyH.cons (o := ⟨some 31, _, _, _, _, _⟩) rfl (fun K hK => ?_) AllReadyH.nil
      (go_simp; go_at_call 18; (with_reducible refine (to_asm _ _ _ zs _ _ _ ps _ ((HS.out.below ((B2.out.alloc (B2.out).size (.cells #[.slice none 0 0, .slice none 0 0] 41)).drew) (Nat.le_refl _)).more ((B2.out.alloc (B2.out).size (.cells #[.slice none 0 0, .slice none 0 0] 41)).drew).size) ((HP.out.below ((B2.out.alloc (B2.out).size (.cells #[.slice none 0 0, .slice none 0 0] 41)).drew) (Nat.le_refl _)).more ((B2.out.alloc (B2.out).size (.cells #[.slice none 0 0, .slice none 0 0] 41)).drew).size) HN.out HM.out hn6 hm6).mono ?_); rintro e x2_7 ⟨A2_7, c2_7, B2_7, d2_7, rfl, o2_7, p2_7, b2_7⟩; have Bw2_7 := Lib.hid (bstep ((B2.out.alloc (B2.out).size (.cells #[.slice none 0 0, .slice none 0 0] 41)).drew) b2_7 ((B2.out.alloc (B2.out).size (.cells #[.slice none 0 0, .slice none 0 0] 41)).drew).size); have Bo2_7 := Lib.hid (bstep (((Below.refl w2.heap.size w2).alloc (Nat.le_refl _) (.cells #[.slice none 0 0, .slice none 0 0] 41)).drew) b2_7 (((Below.refl w2.heap.size w2).alloc (Nat.le_refl _) (.cells #[.slice none 0 0, .slice none 0 0] 41)).drew).size); have z2_7 : w2.heap.size ≤ x2_7.heap.size := Bo2_7.out.size; have Qa2_7 := Lib.hid (((Qa_2.out.alloc (.cells #[.slice none 0 0, .slice none 0 0] 41)).drew).below b2_7 ((Qa_2.out.alloc (.cells #[.slice none 0 0, .slice none 0 0] 41)).drew).lt); have Qb2_7 := Lib.hid (((Qb_2.out.alloc (.cells #[.slice none 0 0, .slice none 0 0] 41)).drew).below b2_7 ((Qb_2.out.alloc (.cells #[.slice none 0 0, .slice none 0 0] 41)).drew).lt); have Oi2_7 := Lib.hid o2_7; have Op2_7 := Lib.hid p2_7; have k2_7 := capsOf p2_7; have N2_7 := Lib.hid (((Blk.new w2 #[.slice none 0 0, .slice none 0 0] 41).drew).below b2_7 ((Blk.new w2 #[.slice none 0 0, .slice none 0 0] 41).drew).lt); clear o2_7 p2_7; first | go_wp2_with fail | skip)
      refine hK.out _ _ (by first | exact ⟨(Qa2_7.out).get 0 rfl, (Qa2_7.out).get 1 rfl, (Qb2_7.out).get 0 rfl, (Qb2_7.out).get 1 rfl, (Qb2_7.out).get 2 rfl, (Qb2_7.out).get 3 rfl, (Qb2_7.out).get 4 rfl, (Qb2_7.out).get 5 rfl, (Qb2_7.out).get 6 rfl⟩) (fun hHeld => ?_)
      clear hK K
      try simp only [Act.put, List.setIfInBounds_toArray, List.set_cons_zero, List.set_cons_succ]
      refine wpAnyH_ready (rs := [3]) (by kernel_rfl) (by simp) ?_
      refine AllReadyH.cons (o := ⟨some 33, _, _, _, _, _⟩) rfl (fun K hK => ?_) AllReadyH.nil
      (go_simp; go_at_call 19; (with_reducible refine (to_data g0 g1 g2 g3 g4 g5 g6 _).mono ?_); rintro e x2_8 ⟨rfl, b2_8⟩; have Bw2_8 := Lib.hid (bstep (Bw2_7.out) b2_8 (Bw2_7.out).size); have Bo2_8 := Lib.hid (bstep (Bo2_7.out) b2_8 (Bo2_7.out).size); have z2_8 : w2.heap.size ≤ x2_8.heap.size := Bo2_8.out.size; have Qa2_8 := Lib.hid ((Qa2_7.out).below b2_8 (Qa2_7.out).lt); have Qb2_8 := Lib.hid ((Qb2_7.out).below b2_8 (Qb2_7.out).lt); have Oi2_8 := Lib.hid ((Oi2_7.out).below b2_8 (Nat.le_refl _)); have Op2_8 := Lib.hid ((Op2_7.out).below b2_8 (Nat.le_refl _)); have N2_8 := Lib.hid ((N2_7.out).below b2_8 (N2_7.out).lt); first | go_wp2_with fail | skip)
      refine hK.out _ _ (by first | exact ⟨(Qa2_8.out).get 0 rfl, (Qa2_8.out).get 1 rfl, (Qb2_8.out).get 0 rfl, (Qb2_8.out).get 1 rfl, (Qb2_8.out).get 2 rfl, (Qb2_8.out).get 3 rfl, (Qb2_8.out).get 4 rfl, (Qb2_8.out).get 5 rfl, (Qb2_8.out).get 6 rfl⟩) (fun hHeld => ?_)
      clear hK K
      try simp only [Act.put, List.setIfInBounds_toArray, List.set_cons_zero, List.set_cons_succ]
      refine wpAnyH_ready (rs := [4]) (by kernel_rfl) (by simp) ?_
      refine AllReadyH.cons (o := ⟨some 34, _, _, _, _, _⟩) rfl (fun K hK => ?_) AllReadyH.nil
      (go_simp; go_at_call 17; (with_reducible refine (sasm_add _ _ _ zs _ _ _ ps g0 g1 g2 g3 g4 g5 g6 HR.out _ (Oi2_8.out).sl (Op2_8.out).sl HN.out HM.out hn7 k2_7.1 k2_7.2 HT.out hg).mono ?_); rintro e x2_9 ⟨A2_9, n2_9, c2_9, B2_9, m2_9, d2_9, C2_9, q2_9, e2_9, rfl, h12_9, h22_9, h32_9, o12_9, o32_9, os2_9, b2_9⟩; have Bw2_9 := Lib.hid (bstep (Bw2_8.out) b2_9 (Bw2_8.out).size); have Bo2_9 := Lib.hid (bstep (Bo2_8.out) b2_9 (Bo2_8.out).size); have z2_9 : w2.heap.size ≤ x2_9.heap.size := Bo2_9.out.size; have Qa2_9 := Lib.hid ((Qa2_8.out).below b2_9 (Qa2_8.out).lt); have Qb2_9 := Lib.hid ((Qb2_8.out).below b2_9 (Qb2_8.out).lt); have Oi2_9 := Lib.hid ((Oi2_8.out).below b2_9 (Nat.le_refl _)); have Op2_9 := Lib.hid ((Op2_8.out).below b2_9 (Nat.le_refl _)); have N2_9 := Lib.hid ((N2_8.out).below b2_9 (N2_8.out).lt); have nf0 := N2_9.out.frozen 0; have nf1 := N2_9.out.frozen 1; have nl := N2_9.out.lt; have nn0 := N2_9.out.get 0 rfl; have nn1 := N2_9.out.get 1 rfl; first | go_wp2_with fail | skip)
      refine hK.out _ _ (by first | exact ⟨(Qa2_9.out).get 0 rfl, (Qa2_9.out).get 1 rfl, (Qb2_9.out).get 0 rfl, (Qb2_9.out).get 1 rfl, (Qb2_9.out).get 2 rfl, (Qb2_9.out).get 3 rfl, (Qb2_9.out).get 4 rfl, (Qb2_9.out).get 5 rfl, (Qb2_9.out).get 6 rfl⟩) (fun hHeld => ?_)
      clear hK K
      try simp only [Act.put, List.setIfInBounds_toArray, List.set_cons_zero, List.set_cons_succ]
      refine wpAnyH_take (i := 5) (oi := ⟨some 29, _, _, _, _, _⟩) (v := ?_) rfl (by kernel_rfl) (by kernel_rfl) (by kernel_rfl) (fun _ _ _ h => h) (Or.inl ⟨by kernel_rfl, ?y21⟩) (by assumption) ?_
      case y21 => (intro w hSw; (try dsimp only at hSw); first | (go_simp; done) | (go_simp; with_reducible rfl))
      simp only [Act.put, List.setIfInBounds_toArray, List.set_cons_zero, List.set_cons_succ]
      refine wpAnyH_take (i := 6) (oi := ⟨some 35, _, _, _, _, _⟩) (v := ?_) rfl (by kernel_rfl) (by kernel_rfl) (by kernel_rfl) (fun _ _ _ h => h) (Or.inl ⟨by kernel_rfl, ?y22⟩) (by assumption) ?_
      case y22 => (intro w hSw; (try dsimp only at hSw); first | (go_simp; done) | (go_simp; with_reducible rfl))
      simp only [Act.put, List.setIfInBounds_toArray, List.set_cons_zero, List.set_cons_succ]
      refine wpAnyH_take (i := 7) (oi := ⟨some 36, _, _, _, _, _⟩) (v := ?_) rfl (by kernel_rfl) (by kernel_rfl) (by kernel_rfl) (fun _ _ _ h => h) (Or.inl ⟨by kernel_rfl, ?y23⟩) (by assumption) ?_
      case y23 => (intro w hSw; (try dsimp only at hSw); first | (go_simp; done) | (go_simp; with_reducible rfl))
      simp only [Act.put, List.setIfInBounds_toArray, List.set_cons_zero, List.set_cons_succ]
      refine wpAnyH_take (i := 8) (oi := ⟨some 37, _, _, _, _, _⟩) (v := ?_) rfl (by kernel_rfl) (by kernel_rfl) (by kernel_rfl) (fun _ _ _ h => h) (Or.inl ⟨by kernel_rfl, ?y24⟩) (by assumption) ?_
      case y24 => (intro w hSw; (try dsimp only at hSw); first | (go_simp; done) | (go_simp; with_reducible rfl))
      simp only [Act.put, List.setIfInBounds_toArray, List.set_cons_zero, List.set_cons_succ]
      refine wpAnyH_ready (rs := [10]) (by kernel_rfl) (by simp) ?_
      refine AllReadyH.cons (o := ⟨none, _, _, _, _, _⟩) rfl (fun K hK => ?_) AllReadyH.nil
      go_simp
      refine hK.out _ _ (by first | exact ⟨((Qa2_9.out.far (p := ⟨w2.heap.size, 0, none⟩) (by show w.heap.size ≠ w2.heap.size; omega) (.slice A2_9 n2_9 c2_9)).far (p := ⟨w2.heap.size, 1, none⟩) (by show w.heap.size ≠ w2.heap.size; omega) (.slice B2_9 m2_9 d2_9)).get 0 rfl, ((Qa2_9.out.far (p := ⟨w2.heap.size, 0, none⟩) (by show w.heap.size ≠ w2.heap.size; omega) (.slice A2_9 n2_9 c2_9)).far (p := ⟨w2.heap.size, 1, none⟩) (by show w.heap.size ≠ w2.heap.size; omega) (.slice B2_9 m2_9 d2_9)).get 1 rfl, ((Qb2_9.out.far (p := ⟨w2.heap.size, 0, none⟩) (by show w.heap.size + 1 ≠ w2.heap.size; omega) (.slice A2_9 n2_9 c2_9)).far (p := ⟨w2.heap.size, 1, none⟩) (by show w.heap.size + 1 ≠ w2.heap.size; omega) (.slice B2_9 m2_9 d2_9)).get 0 rfl, ((Qb2_9.out.far (p := ⟨w2.heap.size, 0, none⟩) (by show w.heap.size + 1 ≠ w2.heap.size; omega) (.slice A2_9 n2_9 c2_9)).far (p := ⟨w2.heap.size, 1, none⟩) (by show w.heap.size + 1 ≠ w2.heap.size; omega) (.slice B2_9 m2_9 d2_9)).get 1 rfl, ((Qb2_9.out.far (p := ⟨w2.heap.size, 0, none⟩) (by show w.heap.size + 1 ≠ w2.heap.size; omega) (.slice A2_9 n2_9 c2_9)).far (p := ⟨w2.heap.size, 1, none⟩) (by show w.heap.size + 1 ≠ w2.heap.size; omega) (.slice B2_9 m2_9 d2_9)).get 2 rfl, ((Qb2_9.out.far (p := ⟨w2.heap.size, 0, none⟩) (by show w.heap.size + 1 ≠ w2.heap.size; omega) (.slice A2_9 n2_9 c2_9)).far (p := ⟨w2.heap.size, 1, none⟩) (by show w.heap.size + 1 ≠ w2.heap.size; omega) (.slice B2_9 m2_9 d2_9)).get 3 rfl, ((Qb2_9.out.far (p := ⟨w2.heap.size, 0, none⟩) (by show w.heap.size + 1 ≠ w2.heap.size; omega) (.slice A2_9 n2_9 c2_9)).far (p := ⟨w2.heap.size, 1, none⟩) (by show w.heap.size + 1 ≠ w2.heap.size; omega) (.slice B2_9 m2_9 d2_9)).get 4 rfl, ((Qb2_9.out.far (p := ⟨w2.heap.size, 0, none⟩) (by show w.heap.size + 1 ≠ w2.heap.size; omega) (.slice A2_9 n2_9 c2_9)).far (p := ⟨w2.heap.size, 1, none⟩) (by show w.heap.size + 1 ≠ w2.heap.size; omega) (.slice B2_9 m2_9 d2_9)).get 5 rfl, ((Qb2_9.out.far (p := ⟨w2.heap.size, 0, none⟩) (by show w.heap.size + 1 ≠ w2.heap.size; omega) (.slice A2_9 n2_9 c2_9)).far (p := ⟨w2.heap.size, 1, none⟩) (by show w.heap.size + 1 ≠ w2.heap.size; omega) (.slice B2_9 m2_9 d2_9)).get 6 rfl⟩) (fun hHeld => ?_)
      clear hK K
      try simp only [Act.put, List.setIfInBounds_toArray, List.set_cons_zero, List.set_cons_succ]
      refine wpAnyH_take (i := 11) (oi := ⟨some 7, _, _, _, _, _⟩) (v := ?_) rfl (by kernel_rfl) (by kernel_rfl) (by kernel_rfl) (fun _ _ _ h => h) (Or.inl ⟨by kernel_rfl, ?y25⟩) (by assumption) ?_
      case y25 => (intro w hSw; (try dsimp only at hSw); first | (go_simp; done) | (go_simp; with_reducible rfl))
      simp only [Act.put, List.setIfInBounds_toArray, List.set_cons_zero, List.set_cons_succ]
      refine wpAnyH_take (i := 12) (oi := ⟨some 8, _, _, _, _, _⟩) (v := ?_) rfl (by kernel_rfl) (by kernel_rfl) (by kernel_rfl) (fun _ _ _ h => h) (Or.inl ⟨by kernel_rfl, ?y26⟩) (by assumption) ?_
      case y26 => (intro w hSw; (try dsimp only at hSw); first | (go_simp; done) | (go_simp; with_reducible rfl))
      simp only [Act.put, List.setIfInBounds_toArray, List.set_cons_zero, List.set_cons_succ]
      have FN := added_first (w0 := w2) ((Bo2_8.out).size) h12_9 h22_9 h32_9 o12_9 o32_9 os2_9 (Bo2_9.out) (N2_9.out) (Nat.le_refl _)
      refine wpAnyH_done (by kernel_rfl) ?_ _
      go_wp2_with fail
      go_meet
      exact FN
    exact AllReadyH.nil
  case rest =>
    obtain ⟨b63, A3, n3, c3, B3', m3, d3, C3, q3, e3, rfl, rfl, rfl, h1, h2, h3, qb, hb63, o1, o3, os, b3⟩ := hcut
    obtain rfl : nz = n3 := by rw [← h1, HNZ.out]
    obtain rfl : mp = m3 := by rw [← h2, HMP.out]
    obtain rfl : qs = q3 := by rw [← h3, HQS.out]
    obtain ⟨w3, rfl⟩ : ∃ wo : World, wo = wc := ⟨_, rfl⟩
    clear h1 h2 h3
    clear la ca0 ca1 lb cb0 cb1 cb2 cb3 cb4 cb5 cb6
    have Qa_3 := Lib.hid (Qa_2.out.below b3 Qa_2.out.lt)
    have Qb_3 := Lib.hid (Qb_2.out.below b3 Qb_2.out.lt)
    have s3 := b3.size
    have B3 := Lib.hid (bstep B2.out b3 B2.out.size)
    have le3 : w2.heap.size ≤ w3.heap.size := by simpa using s3
    clear s3
    have Qw0_3 := Lib.hid qb
    have Owi_3 := Lib.hid o1
    have Owp_3 := Lib.hid o3
    have Owm_3 := Lib.hid os
    clear qb o1 o3 os b3
    have la : w.heap.size < w3.heap.size := Qa_3.out.lt
    have ca0 : w3.cell? ⟨w.heap.size, 0, none⟩ = some (.slice A n c) := Qa_3.out.get 0 rfl
    have ca1 : w3.cell? ⟨w.heap.size, 1, none⟩ = some (.slice A2 m d) := Qa_3.out.get 1 rfl
    go_wp2_with fail
    refine (to_asm _ _ _ zs _ _ _ ps _ ((HS.out.below B3.out (Nat.le_refl _)).more B3.out.size) ((HP.out.below B3.out (Nat.le_refl _)).more B3.out.size) HN.out HM.out hn6 hm6).mono ?_
    rintro e w4 ⟨A5, c5, E5, d5, rfl, o5, p5, b4⟩
    have k5 := capsOf p5
    clear la ca0 ca1
    have Qa_4 := Lib.hid (Qa_3.out.below b4 Qa_3.out.lt)
    have Qb_4 := Lib.hid (Qb_3.out.below b4 Qb_3.out.lt)
    have Qw0_4 := Lib.hid (Qw0_3.out.below b4 Qw0_3.out.lt)
    have Owi_4 := Lib.hid (Owi_3.out.below b4 (Nat.le_refl _))
    have Owp_4 := Lib.hid (Owp_3.out.below b4 (Nat.le_refl _))
    have Owm_4 := Lib.hid (Owm_3.out.below b4 (Nat.le_refl _))
    have s4 := b4.size
    have B4 := Lib.hid (bstep B3.out b4 B3.out.size)
    have le4 : w3.heap.size ≤ w4.heap.size := by simpa using s4
    clear s4
    have Oxi_4 := Lib.hid o5
    have Oxp_4 := Lib.hid p5
    clear b4 o5 p5
    go_upto_region 10 with fail
    obtain ⟨w5, hw5⟩ : ∃ x, x = w4.alloc (.cells #[.slice A5 n c5, .slice E5 m d5] 41) := ⟨_, rfl⟩
    have Qa_5 := Lib.hid (Qa_4.out.alloc (.cells #[.slice A5 n c5, .slice E5 m d5] 41))
    have Qb_5 := Lib.hid (Qb_4.out.alloc (.cells #[.slice A5 n c5, .slice E5 m d5] 41))
    have Qw0_5 := Lib.hid (Qw0_4.out.alloc (.cells #[.slice A5 n c5, .slice E5 m d5] 41))
    have Owi_5 := Lib.hid (Owi_4.out.alloc (.cells #[.slice A5 n c5, .slice E5 m d5] 41))
    have Owp_5 := Lib.hid (Owp_4.out.alloc (.cells #[.slice A5 n c5, .slice E5 m d5] 41))
    have Owm_5 := Lib.hid (Owm_4.out.alloc (.cells #[.slice A5 n c5, .slice E5 m d5] 41))
    have Oxi_5 := Lib.hid (Oxi_4.out.alloc (.cells #[.slice A5 n c5, .slice E5 m d5] 41))
    have Oxp_5 := Lib.hid (Oxp_4.out.alloc (.cells #[.slice A5 n c5, .slice E5 m d5] 41))
    have Qx_5 := Lib.hid (Blk.new w4 #[.slice A5 n c5, .slice E5 m d5] 41)
    have B5 := Lib.hid (B4.out.alloc B4.out.size (.cells #[.slice A5 n c5, .slice E5 m d5] 41))
    have le5 : w4.heap.size ≤ w5.heap.size := by rw [hw5]; simp
    rw [← hw5] at Qa_5 Qb_5 Qw0_5 Owi_5 Owp_5 Owm_5 Oxi_5 Oxp_5 Qx_5 B5
    rw [← hw5]
    clear hw5
    have lx : w4.heap.size < w5.heap.size := Qx_5.out.lt
    have cx0 : w5.cell? ⟨w4.heap.size, 0, none⟩ = some (.slice A5 n c5) := Qx_5.out.get 0 rfl
    have cx1 : w5.cell? ⟨w4.heap.size, 1, none⟩ = some (.slice E5 m d5) := Qx_5.out.get 1 rfl
    have lb : w.heap.size + 1 < w5.heap.size := Qb_5.out.lt
    have cb0 : w5.cell? ⟨w.heap.size + 1, 0, none⟩ = some (.int .i64 g0) := Qb_5.out.get 0 rfl
    have cb1 : w5.cell? ⟨w.heap.size + 1, 1, none⟩ = some (.int .i64 g1) := Qb_5.out.get 1 rfl
    have cb2 : w5.cell? ⟨w.heap.size + 1, 2, none⟩ = some (.int .i64 g2) := Qb_5.out.get 2 rfl
    have cb3 : w5.cell? ⟨w.heap.size + 1, 3, none⟩ = some (.bool g3) := Qb_5.out.get 3 rfl
    have cb4 : w5.cell? ⟨w.heap.size + 1, 4, none⟩ = some (.bool g4) := Qb_5.out.get 4 rfl
    have cb5 : w5.cell? ⟨w.heap.size + 1, 5, none⟩ = some (.bool g5) := Qb_5.out.get 5 rfl
    have cb6 : w5.cell? ⟨w.heap.size + 1, 6, none⟩ = some (.string g6) := Qb_5.out.get 6 rfl
    go_cut [10, 11, 12] (fun v6 v7 v8 wx => AddedTo R w5 v6 v7 v8 wx)
    case first =>
      refine wp_region_held_drew (S := fun w' => w'.cell? ⟨w4.heap.size, 0, none⟩ = some (.slice A5 n c5) ∧ w'.cell? ⟨w4.heap.size, 1, none⟩ = some (.slice E5 m d5) ∧ w'.cell? ⟨w.heap.size + 1, 0, none⟩ = some (.int .i64 g0) ∧ w'.cell? ⟨w.heap.size + 1, 1, none⟩ = some (.int .i64 g1) ∧ w'.cell? ⟨w.heap.size + 1, 2, none⟩ = some (.int .i64 g2) ∧ w'.cell? ⟨w.heap.size + 1, 3, none⟩ = some (.bool g3) ∧ w'.cell? ⟨w.heap.size + 1, 4, none⟩ = some (.bool g4) ∧ w'.cell? ⟨w.heap.size + 1, 5, none⟩ = some (.bool g5) ∧ w'.cell? ⟨w.heap.size + 1, 6, none⟩ = some (.string g6)) (by kernel_rfl) (by first | exact ⟨cx0, cx1, cb0, cb1, cb2, cb3, cb4, cb5, cb6⟩ | go_keep) (fun hHeld => ?_)
      refine wpAnyH_take (i := 0) (oi := ⟨some 41, _, _, _, _, _⟩) (v := ?_) rfl (by kernel_rfl) (by kernel_rfl) (by kernel_rfl) (fun _ _ _ h => h) (Or.inl ⟨by kernel_rfl, ?y27⟩) (by assumption) ?_
      case y27 => (intro w hSw; (try dsimp only at hSw); first | (go_simp; done) | (go_simp; with_reducible rfl))
      simp only [Act.put, List.setIfInBounds_toArray, List.set_cons_zero, List.set_cons_succ]
      refine wpAnyH_take (i := 1) (oi := ⟨some 42, _, _, _, _, _⟩) (v := ?_) rfl (by kernel_rfl) (by kernel_rfl) (by kernel_rfl) (fun _ _ _ h => h) (Or.inl ⟨by kernel_rfl, ?y28⟩) (by assumption) ?_
      case y28 => (intro w hSw; (try dsimp only at hSw); first | (go_simp; done) | (go_simp; with_reducible rfl))
      simp only [Act.put, List.setIfInBounds_toArray, List.set_cons_zero, List.set_cons_succ]
      refine wpAnyH_ready (rs := [2, 8]) (by kernel_rfl) (by simp) ?_
      refine AllReadyH.cons (o := ⟨some 43, _, _, _, _, _⟩) rfl (fun K hK => ?_) ?_
      · skip
        (go_simp; go_at_call 19; (with_reducible refine (to_data g0 g1 g2 g3 g4 g5 g6 _).mono ?_); rintro e x5_1 ⟨rfl, b5_1⟩; have Bw5_1 := Lib.hid (bstep (B5.out.drew) b5_1 (B5.out.drew).size); have Bo5_1 := Lib.hid (bstep ((Below.refl w5.heap.size w5).drew) b5_1 ((Below.refl w5.heap.size w5).drew).size); have z5_1 : w5.heap.size ≤ x5_1.heap.size := Bo5_1.out.size; have Qx5_1 := Lib.hid ((Qx_5.out.drew).below b5_1 (Qx_5.out.drew).lt); have Qb5_1 := Lib.hid ((Qb_5.out.drew).below b5_1 (Qb_5.out.drew).lt); have Oi5_1 := Lib.hid ((Oxi_5.out.drew).below b5_1 (Nat.le_refl _)); have Op5_1 := Lib.hid ((Oxp_5.out.drew).below b5_1 (Nat.le_refl _)); first | go_wp2_with fail | skip)
        refine hK.out _ _ (by first | exact ⟨(Qx5_1.out).get 0 rfl, (Qx5_1.out).get 1 rfl, (Qb5_1.out).get 0 rfl, (Qb5_1.out).get 1 rfl, (Qb5_1.out).get 2 rfl, (Qb5_1.out).get 3 rfl, (Qb5_1.out).get 4 rfl, (Qb5_1.out).get 5 rfl, (Qb5_1.out).get 6 rfl⟩) (fun hHeld => ?_)
        clear hK K
        try simp only [Act.put, List.setIfInBounds_toArray, List.set_cons_zero, List.set_cons_succ]
        refine wpAnyH_ready (rs := [3, 8]) (by kernel_rfl) (by simp) ?_
        refine AllReadyH.cons (o := ⟨some 44, _, _, _, _, _⟩) rfl (fun K hK => ?_) ?_
        · skip
          (go_simp; go_at_call 20; (with_reducible refine (iasm_add _ _ _ zs _ _ _ ps g0 g1 g2 g3 g4 g5 g6 HR.out _ (Oi5_1.out).sl (Op5_1.out).sl HN.out HM.out hn7 k5.1 k5.2 HT.out hg).mono ?_); rintro e x5_2 ⟨A5_2, n5_2, c5_2, B5_2, m5_2, d5_2, C5_2, q5_2, e5_2, rfl, h15_2, h25_2, h35_2, o15_2, o35_2, os5_2, b5_2⟩; have Bw5_2 := Lib.hid (bstep (Bw5_1.out) b5_2 (Bw5_1.out).size); have Bo5_2 := Lib.hid (bstep (Bo5_1.out) b5_2 (Bo5_1.out).size); have z5_2 : w5.heap.size ≤ x5_2.heap.size := Bo5_2.out.size; have Qx5_2 := Lib.hid ((Qx5_1.out).below b5_2 (Qx5_1.out).lt); have Qb5_2 := Lib.hid ((Qb5_1.out).below b5_2 (Qb5_1.out).lt); have Oi5_2 := Lib.hid ((Oi5_1.out).below b5_2 (Nat.le_refl _)); have Op5_2 := Lib.hid ((Op5_1.out).below b5_2 (Nat.le_refl _)); first | go_wp2_with fail | skip)
          refine hK.out _ _ (by first | exact ⟨(Qx5_2.out).get 0 rfl, (Qx5_2.out).get 1 rfl, (Qb5_2.out).get 0 rfl, (Qb5_2.out).get 1 rfl, (Qb5_2.out).get 2 rfl, (Qb5_2.out).get 3 rfl, (Qb5_2.out).get 4 rfl, (Qb5_2.out).get 5 rfl, (Qb5_2.out).get 6 rfl⟩) (fun hHeld => ?_)
          clear hK K
          try simp only [Act.put, List.setIfInBounds_toArray, List.set_cons_zero, List.set_cons_succ]
          refine wpAnyH_take (i := 4) (oi := ⟨some 40, _, _, _, _, _⟩) (v := ?_) rfl (by kernel_rfl) (by kernel_rfl) (by kernel_rfl) (fun _ _ _ h => h) (Or.inl ⟨by kernel_rfl, ?y29⟩) (by assumption) ?_
          case y29 => (intro w hSw; (try dsimp only at hSw); first | (go_simp; done) | (go_simp; with_reducible rfl))
          simp only [Act.put, List.setIfInBounds_toArray, List.set_cons_zero, List.set_cons_succ]
          refine wpAnyH_take (i := 5) (oi := ⟨some 45, _, _, _, _, _⟩) (v := ?_) rfl (by kernel_rfl) (by kernel_rfl) (by kernel_rfl) (fun _ _ _ h => h) (Or.inl ⟨by kernel_rfl, ?y30⟩) (by assumption) ?_
          case y30 => (intro w hSw; (try dsimp only at hSw); first | (go_simp; done) | (go_simp; with_reducible rfl))
          simp only [Act.put, List.setIfInBounds_toArray, List.set_cons_zero, List.set_cons_succ]
          refine wpAnyH_take (i := 6) (oi := ⟨some 46, _, _, _, _, _⟩) (v := ?_) rfl (by kernel_rfl) (by kernel_rfl) (by kernel_rfl) (fun _ _ _ h => h) (Or.inl ⟨by kernel_rfl, ?y31⟩) (by assumption) ?_
          case y31 => (intro w hSw; (try dsimp only at hSw); first | (go_simp; done) | (go_simp; with_reducible rfl))
          simp only [Act.put, List.setIfInBounds_toArray, List.set_cons_zero, List.set_cons_succ]
          refine wpAnyH_take (i := 7) (oi := ⟨some 47, _, _, _, _, _⟩) (v := ?_) rfl (by kernel_rfl) (by kernel_rfl) (by kernel_rfl) (fun _ _ _ h => h) (Or.inl ⟨by kernel_rfl, ?y32⟩) (by assumption) ?_
          case y32 => (intro w hSw; (try dsimp only at hSw); first | (go_simp; done) | (go_simp; with_reducible rfl))
          simp only [Act.put, List.setIfInBounds_toArray, List.set_cons_zero, List.set_cons_succ]
          refine wpAnyH_ready (rs := [8]) (by kernel_rfl) (by simp) ?_
          refine AllReadyH.cons (o := ⟨some 10, _, _, _, _, _⟩) rfl (fun K hK => ?_) AllReadyH.nil
          go_simp
          refine hK.out _ _ (by first | exact ⟨((Qx5_2.out.alloc (.cells #[.slice none 0 0, .slice none 0 0] 41))).get 0 rfl, ((Qx5_2.out.alloc (.cells #[.slice none 0 0, .slice none 0 0] 41))).get 1 rfl, ((Qb5_2.out.alloc (.cells #[.slice none 0 0, .slice none 0 0] 41))).get 0 rfl, ((Qb5_2.out.alloc (.cells #[.slice none 0 0, .slice none 0 0] 41))).get 1 rfl, ((Qb5_2.out.alloc (.cells #[.slice none 0 0, .slice none 0 0] 41))).get 2 rfl, ((Qb5_2.out.alloc (.cells #[.slice none 0 0, .slice none 0 0] 41))).get 3 rfl, ((Qb5_2.out.alloc (.cells #[.slice none 0 0, .slice none 0 0] 41))).get 4 rfl, ((Qb5_2.out.alloc (.cells #[.slice none 0 0, .slice none 0 0] 41))).get 5 rfl, ((Qb5_2.out.alloc (.cells #[.slice none 0 0, .slice none 0 0] 41))).get 6 rfl⟩) (fun hHeld => ?_)
          clear hK K
          try simp only [Act.put, List.setIfInBounds_toArray, List.set_cons_zero, List.set_cons_succ]
          refine wpAnyH_ready (rs := [9]) (by kernel_rfl) (by simp) ?_
          refine AllReadyH.cons (o := ⟨none, _, _, _, _, _⟩) rfl (fun K hK => ?_) AllReadyH.nil
          go_simp
          refine hK.out _ _ (by first | exact ⟨(Qx5_2.out.alloc _).get 0 rfl, (Qx5_2.out.alloc _).get 1 rfl, (Qb5_2.out.alloc _).get 0 rfl, (Qb5_2.out.alloc _).get 1 rfl, (Qb5_2.out.alloc _).get 2 rfl, (Qb5_2.out.alloc _).get 3 rfl, (Qb5_2.out.alloc _).get 4 rfl, (Qb5_2.out.alloc _).get 5 rfl, (Qb5_2.out.alloc _).get 6 rfl⟩) (fun hHeld => ?_)
          clear hK K
          try simp only [Act.put, List.setIfInBounds_toArray, List.set_cons_zero, List.set_cons_succ]
          refine wpAnyH_take (i := 10) (oi := ⟨some 11, _, _, _, _, _⟩) (v := ?_) rfl (by kernel_rfl) (by kernel_rfl) (by kernel_rfl) (fun _ _ _ h => h) (Or.inl ⟨by kernel_rfl, ?y33⟩) (by assumption) ?_
          case y33 => (intro w hSw; (try dsimp only at hSw); first | (go_simp; done) | (go_simp; with_reducible rfl))
          simp only [Act.put, List.setIfInBounds_toArray, List.set_cons_zero, List.set_cons_succ]
          refine wpAnyH_take (i := 11) (oi := ⟨some 12, _, _, _, _, _⟩) (v := ?_) rfl (by kernel_rfl) (by kernel_rfl) (by kernel_rfl) (fun _ _ _ h => h) (Or.inl ⟨by kernel_rfl, ?y34⟩) (by assumption) ?_
          case y34 => (intro w hSw; (try dsimp only at hSw); first | (go_simp; done) | (go_simp; with_reducible rfl))
          simp only [Act.put, List.setIfInBounds_toArray, List.set_cons_zero, List.set_cons_succ]
          have FN := added_last (w0 := w5) ((Bo5_1.out).size) h15_2 h25_2 h35_2 o15_2 o35_2 os5_2 (Bo5_2.out)
          refine wpAnyH_done (by kernel_rfl) ?_ _
          go_wp2_with fail
          go_meet
          exact FN
        refine AllReadyH.cons (o := ⟨some 10, _, _, _, _, _⟩) rfl (fun K hK => ?_) ?_
        · skip
          go_simp
          refine hK.out _ _ (by first | exact ⟨((Qx5_1.out.alloc (.cells #[.slice none 0 0, .slice none 0 0] 41))).get 0 rfl, ((Qx5_1.out.alloc (.cells #[.slice none 0 0, .slice none 0 0] 41))).get 1 rfl, ((Qb5_1.out.alloc (.cells #[.slice none 0 0, .slice none 0 0] 41))).get 0 rfl, ((Qb5_1.out.alloc (.cells #[.slice none 0 0, .slice none 0 0] 41))).get 1 rfl, ((Qb5_1.out.alloc (.cells #[.slice none 0 0, .slice none 0 0] 41))).get 2 rfl, ((Qb5_1.out.alloc (.cells #[.slice none 0 0, .slice none 0 0] 41))).get 3 rfl, ((Qb5_1.out.alloc (.cells #[.slice none 0 0, .slice none 0 0] 41))).get 4 rfl, ((Qb5_1.out.alloc (.cells #[.slice none 0 0, .slice none 0 0] 41))).get 5 rfl, ((Qb5_1.out.alloc (.cells #[.slice none 0 0, .slice none 0 0] 41))).get 6 rfl⟩) (fun hHeld => ?_)
          clear hK K
          try simp only [Act.put, List.setIfInBounds_toArray, List.set_cons_zero, List.set_cons_succ]
          refine wpAnyH_ready (rs := [3]) (by kernel_rfl) (by simp) ?_
          refine AllReadyH.cons (o := ⟨some 44, _, _, _, _, _⟩) rfl (fun K hK => ?_) AllReadyH.nil
          (go_simp; go_at_call 20; (with_reducible refine (iasm_add _ _ _ zs _ _ _ ps g0 g1 g2 g3 g4 g5 g6 HR.out _ ((Oi5_1.out.alloc (.cells #[.slice none 0 0, .slice none 0 0] 41))).sl ((Op5_1.out.alloc (.cells #[.slice none 0 0, .slice none 0 0] 41))).sl HN.out HM.out hn7 k5.1 k5.2 HT.out hg).mono ?_); rintro e x5_3 ⟨A5_3, n5_3, c5_3, B5_3, m5_3, d5_3, C5_3, q5_3, e5_3, rfl, h15_3, h25_3, h35_3, o15_3, o35_3, os5_3, b5_3⟩; have Bw5_3 := Lib.hid (bstep (((Bw5_1.out).alloc (Bw5_1.out).size (.cells #[.slice none 0 0, .slice none 0 0] 41))) b5_3 (((Bw5_1.out).alloc (Bw5_1.out).size (.cells #[.slice none 0 0, .slice none 0 0] 41))).size); have Bo5_3 := Lib.hid (bstep (((Bo5_1.out).alloc (Bo5_1.out).size (.cells #[.slice none 0 0, .slice none 0 0] 41))) b5_3 (((Bo5_1.out).alloc (Bo5_1.out).size (.cells #[.slice none 0 0, .slice none 0 0] 41))).size); have z5_3 : w5.heap.size ≤ x5_3.heap.size := Bo5_3.out.size; have Qx5_3 := Lib.hid (((Qx5_1.out.alloc (.cells #[.slice none 0 0, .slice none 0 0] 41))).below b5_3 ((Qx5_1.out.alloc (.cells #[.slice none 0 0, .slice none 0 0] 41))).lt); have Qb5_3 := Lib.hid (((Qb5_1.out.alloc (.cells #[.slice none 0 0, .slice none 0 0] 41))).below b5_3 ((Qb5_1.out.alloc (.cells #[.slice none 0 0, .slice none 0 0] 41))).lt); have Oi5_3 := Lib.hid (((Oi5_1.out.alloc (.cells #[.slice none 0 0, .slice none 0 0] 41))).below b5_3 (Nat.le_refl _)); have Op5_3 := Lib.hid (((Op5_1.out.alloc (.cells #[.slice none 0 0, .slice none 0 0] 41))).below b5_3 (Nat.le_refl _)); have N5_3 := Lib.hid (((Blk.new x5_1 #[.slice none 0 0, .slice none 0 0] 41)).below b5_3 ((Blk.new x5_1 #[.slice none 0 0, .slice none 0 0] 41)).lt); have nf0 := N5_3.out.frozen 0; have nf1 := N5_3.out.frozen 1; have nl := N5_3.out.lt; have nn0 := N5_3.out.get 0 rfl; have nn1 := N5_3.out.get 1 rfl; first | go_wp2_with fail | skip)
          refine hK.out _ _ (by first | exact ⟨(Qx5_3.out).get 0 rfl, (Qx5_3.out).get 1 rfl, (Qb5_3.out).get 0 rfl, (Qb5_3.out).get 1 rfl, (Qb5_3.out).get 2 rfl, (Qb5_3.out).get 3 rfl, (Qb5_3.out).get 4 rfl, (Qb5_3.out).get 5 rfl, (Qb5_3.out).get 6 rfl⟩) (fun hHeld => ?_)
          clear hK K
          try simp only [Act.put, List.setIfInBounds_toArray, List.set_cons_zero, List.set_cons_succ]
          refine wpAnyH_take (i := 4) (oi := ⟨some 40, _, _, _, _, _⟩) (v := ?_) rfl (by kernel_rfl) (by kernel_rfl) (by kernel_rfl) (fun _ _ _ h => h) (Or.inl ⟨by kernel_rfl, ?y35⟩) (by assumption) ?_
          case y35 => (intro w hSw; (try dsimp only at hSw); first | (go_simp; done) | (go_simp; with_reducible rfl))
          simp only [Act.put, List.setIfInBounds_toArray, List.set_cons_zero, List.set_cons_succ]
          refine wpAnyH_take (i := 5) (oi := ⟨some 45, _, _, _, _, _⟩) (v := ?_) rfl (by kernel_rfl) (by kernel_rfl) (by kernel_rfl) (fun _ _ _ h => h) (Or.inl ⟨by kernel_rfl, ?y36⟩) (by assumption) ?_
          case y36 => (intro w hSw; (try dsimp only at hSw); first | (go_simp; done) | (go_simp; with_reducible rfl))
          simp only [Act.put, List.setIfInBounds_toArray, List.set_cons_zero, List.set_cons_succ]
          refine wpAnyH_take (i := 6) (oi := ⟨some 46, _, _, _, _, _⟩) (v := ?_) rfl (by kernel_rfl) (by kernel_rfl) (by kernel_rfl) (fun _ _ _ h => h) (Or.inl ⟨by kernel_rfl, ?y37⟩) (by assumption) ?_
          case y37 => (intro w hSw; (try dsimp only at hSw); first | (go_simp; done) | (go_simp; with_reducible rfl))
          simp only [Act.put, List.setIfInBounds_toArray, List.set_cons_zero, List.set_cons_succ]
          refine wpAnyH_take (i := 7) (oi := ⟨some 47, _, _, _, _, _⟩) (v := ?_) rfl (by kernel_rfl) (by kernel_rfl) (by kernel_rfl) (fun _ _ _ h => h) (Or.inl ⟨by kernel_rfl, ?y38⟩) (by assumption) ?_
          case y38 => (intro w hSw; (try dsimp only at hSw); first | (go_simp; done) | (go_simp; with_reducible rfl))
          simp only [Act.put, List.setIfInBounds_toArray, List.set_cons_zero, List.set_cons_succ]
          refine wpAnyH_ready (rs := [9]) (by kernel_rfl) (by simp) ?_
          refine AllReadyH.cons (o := ⟨none, _, _, _, _, _⟩) rfl (fun K hK => ?_) AllReadyH.nil
          go_simp
          refine hK.out _ _ (by first | exact ⟨((Qx5_3.out.far (p := ⟨x5_1.heap.size, 0, none⟩) (by show w4.heap.size ≠ x5_1.heap.size; omega) (.slice A5_3 n5_3 c5_3)).far (p := ⟨x5_1.heap.size, 1, none⟩) (by show w4.heap.size ≠ x5_1.heap.size; omega) (.slice B5_3 m5_3 d5_3)).get 0 rfl, ((Qx5_3.out.far (p := ⟨x5_1.heap.size, 0, none⟩) (by show w4.heap.size ≠ x5_1.heap.size; omega) (.slice A5_3 n5_3 c5_3)).far (p := ⟨x5_1.heap.size, 1, none⟩) (by show w4.heap.size ≠ x5_1.heap.size; omega) (.slice B5_3 m5_3 d5_3)).get 1 rfl, ((Qb5_3.out.far (p := ⟨x5_1.heap.size, 0, none⟩) (by show w.heap.size + 1 ≠ x5_1.heap.size; omega) (.slice A5_3 n5_3 c5_3)).far (p := ⟨x5_1.heap.size, 1, none⟩) (by show w.heap.size + 1 ≠ x5_1.heap.size; omega) (.slice B5_3 m5_3 d5_3)).get 0 rfl, ((Qb5_3.out.far (p := ⟨x5_1.heap.size, 0, none⟩) (by show w.heap.size + 1 ≠ x5_1.heap.size; omega) (.slice A5_3 n5_3 c5_3)).far (p := ⟨x5_1.heap.size, 1, none⟩) (by show w.heap.size + 1 ≠ x5_1.heap.size; omega) (.slice B5_3 m5_3 d5_3)).get 1 rfl, ((Qb5_3.out.far (p := ⟨x5_1.heap.size, 0, none⟩) (by show w.heap.size + 1 ≠ x5_1.heap.size; omega) (.slice A5_3 n5_3 c5_3)).far (p := ⟨x5_1.heap.size, 1, none⟩) (by show w.heap.size + 1 ≠ x5_1.heap.size; omega) (.slice B5_3 m5_3 d5_3)).get 2 rfl, ((Qb5_3.out.far (p := ⟨x5_1.heap.size, 0, none⟩) (by show w.heap.size + 1 ≠ x5_1.heap.size; omega) (.slice A5_3 n5_3 c5_3)).far (p := ⟨x5_1.heap.size, 1, none⟩) (by show w.heap.size + 1 ≠ x5_1.heap.size; omega) (.slice B5_3 m5_3 d5_3)).get 3 rfl, ((Qb5_3.out.far (p := ⟨x5_1.heap.size, 0, none⟩) (by show w.heap.size + 1 ≠ x5_1.heap.size; omega) (.slice A5_3 n5_3 c5_3)).far (p := ⟨x5_1.heap.size, 1, none⟩) (by show w.heap.size + 1 ≠ x5_1.heap.size; omega) (.slice B5_3 m5_3 d5_3)).get 4 rfl, ((Qb5_3.out.far (p := ⟨x5_1.heap.size, 0, none⟩) (by show w.heap.size + 1 ≠ x5_1.heap.size; omega) (.slice A5_3 n5_3 c5_3)).far (p := ⟨x5_1.heap.size, 1, none⟩) (by show w.heap.size + 1 ≠ x5_1.heap.size; omega) (.slice B5_3 m5_3 d5_3)).get 5 rfl, ((Qb5_3.out.far (p := ⟨x5_1.heap.size, 0, none⟩) (by show w.heap.size + 1 ≠ x5_1.heap.size; omega) (.slice A5_3 n5_3 c5_3)).far (p := ⟨x5_1.heap.size, 1, none⟩) (by show w.heap.size + 1 ≠ x5_1.heap.size; omega) (.slice B5_3 m5_3 d5_3)).get 6 rfl⟩) (fun hHeld => ?_)
          clear hK K
          try simp only [Act.put, List.setIfInBounds_toArray, List.set_cons_zero, List.set_cons_succ]
          refine wpAnyH_take (i := 10) (oi := ⟨some 11, _, _, _, _, _⟩) (v := ?_) rfl (by kernel_rfl) (by kernel_rfl) (by kernel_rfl) (fun _ _ _ h => h) (Or.inl ⟨by kernel_rfl, ?y39⟩) (by assumption) ?_
          case y39 => (intro w hSw; (try dsimp only at hSw); first | (go_simp; done) | (go_simp; with_reducible rfl))
          simp only [Act.put, List.setIfInBounds_toArray, List.set_cons_zero, List.set_cons_succ]
          refine wpAnyH_take (i := 11) (oi := ⟨some 12, _, _, _, _, _⟩) (v := ?_) rfl (by kernel_rfl) (by kernel_rfl) (by kernel_rfl) (fun _ _ _ h => h) (Or.inl ⟨by kernel_rfl, ?y40⟩) (by assumption) ?_
          case y40 => (intro w hSw; (try dsimp only at hSw); first | (go_simp; done) | (go_simp; with_reducible rfl))
          simp only [Act.put, List.setIfInBounds_toArray, List.set_cons_zero, List.set_cons_succ]
          have FN := added_first (w0 := w5) ((((Bo5_1.out).alloc (Bo5_1.out).size (.cells #[.slice none 0 0, .slice none 0 0] 41))).size) h15_3 h25_3 h35_3 o15_3 o35_3 os5_3 (Bo5_3.out) (N5_3.out) ((Bo5_1.out).size)
          refine wpAnyH_done (by kernel_rfl) ?_ _
          go_wp2_with fail
          go_meet
          exact FN
        exact AllReadyH.nil
      refine AllReadyH.cons (o := ⟨some 10, _, _, _, _, _⟩) rfl (fun K hK => ?_) ?_
      · skip
        go_simp
        refine hK.out _ _ (by first | exact ⟨((Qx_5.out.alloc (.cells #[.slice none 0 0, .slice none 0 0] 41)).drew).get 0 rfl, ((Qx_5.out.alloc (.cells #[.slice none 0 0, .slice none 0 0] 41)).drew).get 1 rfl, ((Qb_5.out.alloc (.cells #[.slice none 0 0, .slice none 0 0] 41)).drew).get 0 rfl, ((Qb_5.out.alloc (.cells #[.slice none 0 0, .slice none 0 0] 41)).drew).get 1 rfl, ((Qb_5.out.alloc (.cells #[.slice none 0 0, .slice none 0 0] 41)).drew).get 2 rfl, ((Qb_5.out.alloc (.cells #[.slice none 0 0, .slice none 0 0] 41)).drew).get 3 rfl, ((Qb_5.out.alloc (.cells #[.slice none 0 0, .slice none 0 0] 41)).drew).get 4 rfl, ((Qb_5.out.alloc (.cells #[.slice none 0 0, .slice none 0 0] 41)).drew).get 5 rfl, ((Qb_5.out.alloc (.cells #[.slice none 0 0, .slice none 0 0] 41)).drew).get 6 rfl⟩) (fun hHeld => ?_)
        clear hK K
        try simp only [Act.put, List.setIfInBounds_toArray, List.set_cons_zero, List.set_cons_succ]
        refine wpAnyH_ready (rs := [2]) (by kernel_rfl) (by simp) ?_
        refine AllReadyH.cons (o := ⟨some 43, _, _, _, _, _⟩) rfl (fun K hK => ?_) AllReadyH.nil
        (go_simp; go_at_call 19; (with_reducible refine (to_data g0 g1 g2 g3 g4 g5 g6 _).mono ?_); rintro e x5_4 ⟨rfl, b5_4⟩; have Bw5_4 := Lib.hid (bstep ((B5.out.alloc (B5.out).size (.cells #[.slice none 0 0, .slice none 0 0] 41)).drew) b5_4 ((B5.out.alloc (B5.out).size (.cells #[.slice none 0 0, .slice none 0 0] 41)).drew).size); have Bo5_4 := Lib.hid (bstep (((Below.refl w5.heap.size w5).alloc (Nat.le_refl _) (.cells #[.slice none 0 0, .slice none 0 0] 41)).drew) b5_4 (((Below.refl w5.heap.size w5).alloc (Nat.le_refl _) (.cells #[.slice none 0 0, .slice none 0 0] 41)).drew).size); have z5_4 : w5.heap.size ≤ x5_4.heap.size := Bo5_4.out.size; have Qx5_4 := Lib.hid (((Qx_5.out.alloc (.cells #[.slice none 0 0, .slice none 0 0] 41)).drew).below b5_4 ((Qx_5.out.alloc (.cells #[.slice none 0 0, .slice none 0 0] 41)).drew).lt); have Qb5_4 := Lib.hid (((Qb_5.out.alloc (.cells #[.slice none 0 0, .slice none 0 0] 41)).drew).below b5_4 ((Qb_5.out.alloc (.cells #[.slice none 0 0, .slice none 0 0] 41)).drew).lt); have Oi5_4 := Lib.hid (((Oxi_5.out.alloc (.cells #[.slice none 0 0, .slice none 0 0] 41)).drew).below b5_4 (Nat.le_refl _)); have Op5_4 := Lib.hid (((Oxp_5.out.alloc (.cells #[.slice none 0 0, .slice none 0 0] 41)).drew).below b5_4 (Nat.le_refl _)); have N5_4 := Lib.hid (((Blk.new w5 #[.slice none 0 0, .slice none 0 0] 41).drew).below b5_4 ((Blk.new w5 #[.slice none 0 0, .slice none 0 0] 41).drew).lt); first | go_wp2_with fail | skip)
        refine hK.out _ _ (by first | exact ⟨(Qx5_4.out).get 0 rfl, (Qx5_4.out).get 1 rfl, (Qb5_4.out).get 0 rfl, (Qb5_4.out).get 1 rfl, (Qb5_4.out).get 2 rfl, (Qb5_4.out).get 3 rfl, (Qb5_4.out).get 4 rfl, (Qb5_4.out).get 5 rfl, (Qb5_4.out).get 6 rfl⟩) (fun hHeld => ?_)
        clear hK K
        try simp only [Act.put, List.setIfInBounds_toArray, List.set_cons_zero, List.set_cons_succ]
        refine wpAnyH_ready (rs := [3]) (by kernel_rfl) (by simp) ?_
        refine AllReadyH.cons (o := ⟨some 44, _, _, _, _, _⟩) rfl (fun K hK => ?_) AllReadyH.nil
        (go_simp; go_at_call 20; (with_reducible refine (iasm_add _ _ _ zs _ _ _ ps g0 g1 g2 g3 g4 g5 g6 HR.out _ (Oi5_4.out).sl (Op5_4.out).sl HN.out HM.out hn7 k5.1 k5.2 HT.out hg).mono ?_); rintro e x5_5 ⟨A5_5, n5_5, c5_5, B5_5, m5_5, d5_5, C5_5, q5_5, e5_5, rfl, h15_5, h25_5, h35_5, o15_5, o35_5, os5_5, b5_5⟩; have Bw5_5 := Lib.hid (bstep (Bw5_4.out) b5_5 (Bw5_4.out).size); have Bo5_5 := Lib.hid (bstep (Bo5_4.out) b5_5 (Bo5_4.out).size); have z5_5 : w5.heap.size ≤ x5_5.heap.size := Bo5_5.out.size; have Qx5_5 := Lib.hid ((Qx5_4.out).below b5_5 (Qx5_4.out).lt); have Qb5_5 := Lib.hid ((Qb5_4.out).below b5_5 (Qb5_4.out).lt); have Oi5_5 := Lib.hid ((Oi5_4.out).below b5_5 (Nat.le_refl _)); have Op5_5 := Lib.hid ((Op5_4.out).below b5_5 (Nat.le_refl _)); have N5_5 := Lib.hid ((N5_4.out).below b5_5 (N5_4.out).lt); have nf0 := N5_5.out.frozen 0; have nf1 := N5_5.out.frozen 1; have nl := N5_5.out.lt; have nn0 := N5_5.out.get 0 rfl; have nn1 := N5_5.out.get 1 rfl; first | go_wp2_with fail | skip)
        refine hK.out _ _ (by first | exact ⟨(Qx5_5.out).get 0 rfl, (Qx5_5.out).get 1 rfl, (Qb5_5.out).get 0 rfl, (Qb5_5.out).get 1 rfl, (Qb5_5.out).get 2 rfl, (Qb5_5.out).get 3 rfl, (Qb5_5.out).get 4 rfl, (Qb5_5.out).get 5 rfl, (Qb5_5.out).get 6 rfl⟩) (fun hHeld => ?_)
        clear hK K
        try simp only [Act.put, List.setIfInBounds_toArray, List.set_cons_zero, List.set_cons_succ]
        refine wpAnyH_take (i := 4) (oi := ⟨some 40, _, _, _, _, _⟩) (v := ?_) rfl (by kernel_rfl) (by kernel_rfl) (by kernel_rfl) (fun _ _ _ h => h) (Or.inl ⟨by kernel_rfl, ?y41⟩) (by assumption) ?_
        case y41 => (intro w hSw; (try dsimp only at hSw); first | (go_simp; done) | (go_simp; with_reducible rfl))
        simp only [Act.put, List.setIfInBounds_toArray, List.set_cons_zero, List.set_cons_succ]
        refine wpAnyH_take (i := 5) (oi := ⟨some 45, _, _, _, _, _⟩) (v := ?_) rfl (by kernel_rfl) (by kernel_rfl) (by kernel_rfl) (fun _ _ _ h => h) (Or.inl ⟨by kernel_rfl, ?y42⟩) (by assumption) ?_
        case y42 => (intro w hSw; (try dsimp only at hSw); first | (go_simp; done) | (go_simp; with_reducible rfl))
        simp only [Act.put, List.setIfInBounds_toArray, List.set_cons_zero, List.set_cons_succ]
        refine wpAnyH_take (i := 6) (oi := ⟨some 46, _, _, _, _, _⟩) (v := ?_) rfl (by kernel_rfl) (by kernel_rfl) (by kernel_rfl) (fun _ _ _ h => h) (Or.inl ⟨by kernel_rfl, ?y43⟩) (by assumption) ?_
        case y43 => (intro w hSw; (try dsimp only at hSw); first | (go_simp; done) | (go_simp; with_reducible rfl))
        simp only [Act.put, List.setIfInBounds_toArray, List.set_cons_zero, List.set_cons_succ]
        refine wpAnyH_take (i := 7) (oi := ⟨some 47, _, _, _, _, _⟩) (v := ?_) rfl (by kernel_rfl) (by kernel_rfl) (by kernel_rfl) (fun _ _ _ h => h) (Or.inl ⟨by kernel_rfl, ?y44⟩) (by assumption) ?_
        case y44 => (intro w hSw; (try dsimp only at hSw); first | (go_simp; done) | (go_simp; with_reducible rfl))
        simp only [Act.put, List.setIfInBounds_toArray, List.set_cons_zero, List.set_cons_succ]
        refine wpAnyH_ready (rs := [9]) (by kernel_rfl) (by simp) ?_
        refine AllReadyH.cons (o := ⟨none, _, _, _, _, _⟩) rfl (fun K hK => ?_) AllReadyH.nil
        go_simp
        refine hK.out _ _ (by first | exact ⟨((Qx5_5.out.far (p := ⟨w5.heap.size, 0, none⟩) (by show w4.heap.size ≠ w5.heap.size; omega) (.slice A5_5 n5_5 c5_5)).far (p := ⟨w5.heap.size, 1, none⟩) (by show w4.heap.size ≠ w5.heap.size; omega) (.slice B5_5 m5_5 d5_5)).get 0 rfl, ((Qx5_5.out.far (p := ⟨w5.heap.size, 0, none⟩) (by show w4.heap.size ≠ w5.heap.size; omega) (.slice A5_5 n5_5 c5_5)).far (p := ⟨w5.heap.size, 1, none⟩) (by show w4.heap.size ≠ w5.heap.size; omega) (.slice B5_5 m5_5 d5_5)).get 1 rfl, ((Qb5_5.out.far (p := ⟨w5.heap.size, 0, none⟩) (by show w.heap.size + 1 ≠ w5.heap.size; omega) (.slice A5_5 n5_5 c5_5)).far (p := ⟨w5.heap.size, 1, none⟩) (by show w.heap.size + 1 ≠ w5.heap.size; omega) (.slice B5_5 m5_5 d5_5)).get 0 rfl, ((Qb5_5.out.far (p := ⟨w5.heap.size, 0, none⟩) (by show w.heap.size + 1 ≠ w5.heap.size; omega) (.slice A5_5 n5_5 c5_5)).far (p := ⟨w5.heap.size, 1, none⟩) (by show w.heap.size + 1 ≠ w5.heap.size; omega) (.slice B5_5 m5_5 d5_5)).get 1 rfl, ((Qb5_5.out.far (p := ⟨w5.heap.size, 0, none⟩) (by show w.heap.size + 1 ≠ w5.heap.size; omega) (.slice A5_5 n5_5 c5_5)).far (p := ⟨w5.heap.size, 1, none⟩) (by show w.heap.size + 1 ≠ w5.heap.size; omega) (.slice B5_5 m5_5 d5_5)).get 2 rfl, ((Qb5_5.out.far (p := ⟨w5.heap.size, 0, none⟩) (by show w.heap.size + 1 ≠ w5.heap.size; omega) (.slice A5_5 n5_5 c5_5)).far (p := ⟨w5.heap.size, 1, none⟩) (by show w.heap.size + 1 ≠ w5.heap.size; omega) (.slice B5_5 m5_5 d5_5)).get 3 rfl, ((Qb5_5.out.far (p := ⟨w5.heap.size, 0, none⟩) (by show w.heap.size + 1 ≠ w5.heap.size; omega) (.slice A5_5 n5_5 c5_5)).far (p := ⟨w5.heap.size, 1, none⟩) (by show w.heap.size + 1 ≠ w5.heap.size; omega) (.slice B5_5 m5_5 d5_5)).get 4 rfl, ((Qb5_5.out.far (p := ⟨w5.heap.size, 0, none⟩) (by show w.heap.size + 1 ≠ w5.heap.size; omega) (.slice A5_5 n5_5 c5_5)).far (p := ⟨w5.heap.size, 1, none⟩) (by show w.heap.size + 1 ≠ w5.heap.size; omega) (.slice B5_5 m5_5 d5_5)).get 5 rfl, ((Qb5_5.out.far (p := ⟨w5.heap.size, 0, none⟩) (by show w.heap.size + 1 ≠ w5.heap.size; omega) (.slice A5_5 n5_5 c5_5)).far (p := ⟨w5.heap.size, 1, none⟩) (by show w.heap.size + 1 ≠ w5.heap.size; omega) (.slice B5_5 m5_5 d5_5)).get 6 rfl⟩) (fun hHeld => ?_)
        clear hK K
        try simp only [Act.put, List.setIfInBounds_toArray, List.set_cons_zero, List.set_cons_succ]
        refine wpAnyH_take (i := 10) (oi := ⟨some 11, _, _, _, _, _⟩) (v := ?_) rfl (by kernel_rfl) (by kernel_rfl) (by kernel_rfl) (fun _ _ _ h => h) (Or.inl ⟨by kernel_rfl, ?y45⟩) (by assumption) ?_
        case y45 => (intro w hSw; (try dsimp only at hSw); first | (go_simp; done) | (go_simp; with_reducible rfl))
        simp only [Act.put, List.setIfInBounds_toArray, List.set_cons_zero, List.set_cons_succ]
        refine wpAnyH_take (i := 11) (oi := ⟨some 12, _, _, _, _, _⟩) (v := ?_) rfl (by kernel_rfl) (by kernel_rfl) (by kernel_rfl) (fun _ _ _ h => h) (Or.inl ⟨by kernel_rfl, ?y46⟩) (by assumption) ?_
        case y46 => (intro w hSw; (try dsimp only at hSw); first | (go_simp; done) | (go_simp; with_reducible rfl))
        simp only [Act.put, List.setIfInBounds_toArray, List.set_cons_zero, List.set_cons_succ]
        have FN := added_first (w0 := w5) ((Bo5_4.out).size) h15_5 h25_5 h35_5 o15_5 o35_5 os5_5 (Bo5_5.out) (N5_5.out) (Nat.le_refl _)
        refine wpAnyH_done (by kernel_rfl) ?_ _
        go_wp2_with fail
        go_meet
        exact FN
      exact AllReadyH.nil
    case rest =>
      obtain ⟨b66, A6, n6, c6, B6', m6, d6, C6, q6, e6, rfl, rfl, rfl, h1, h2, h3, qb, hb66, o1, o3, os, b6⟩ := hcut
      obtain rfl : nz = n6 := by rw [← h1, HNZ.out]
      obtain rfl : mp = m6 := by rw [← h2, HMP.out]
      obtain rfl : qs = q6 := by rw [← h3, HQS.out]
      obtain ⟨w6, rfl⟩ : ∃ wo : World, wo = wc := ⟨_, rfl⟩
      clear h1 h2 h3
      clear lx cx0 cx1 lb cb0 cb1 cb2 cb3 cb4 cb5 cb6
      have Qa_6 := Lib.hid (Qa_5.out.below b6 Qa_5.out.lt)
      have Qb_6 := Lib.hid (Qb_5.out.below b6 Qb_5.out.lt)
      have Qw0_6 := Lib.hid (Qw0_5.out.below b6 Qw0_5.out.lt)
      have Owi_6 := Lib.hid (Owi_5.out.below b6 (Nat.le_refl _))
      have Owp_6 := Lib.hid (Owp_5.out.below b6 (Nat.le_refl _))
      have Owm_6 := Lib.hid (Owm_5.out.below b6 (Nat.le_refl _))
      have Oxi_6 := Lib.hid (Oxi_5.out.below b6 (Nat.le_refl _))
      have Oxp_6 := Lib.hid (Oxp_5.out.below b6 (Nat.le_refl _))
      have Qx_6 := Lib.hid (Qx_5.out.below b6 Qx_5.out.lt)
      have s6 := b6.size
      have B6 := Lib.hid (bstep B5.out b6 B5.out.size)
      have le6 : w5.heap.size ≤ w6.heap.size := by simpa using s6
      clear s6
      have Qg0_6 := Lib.hid qb
      have Ogi_6 := Lib.hid o1
      have Ogp_6 := Lib.hid o3
      have Ogm_6 := Lib.hid os
      clear qb o1 o3 os b6
      have lg0 : b66 < w6.heap.size := Qg0_6.out.lt
      have cg00 : w6.cell? ⟨b66, 0, none⟩ = some (.slice A6 nz c6) := Qg0_6.out.get 0 rfl
      have cg01 : w6.cell? ⟨b66, 1, none⟩ = some (.slice B6' mp d6) := Qg0_6.out.get 1 rfl
      have lw0 : b63 < w6.heap.size := Qw0_6.out.lt
      have cw00 : w6.cell? ⟨b63, 0, none⟩ = some (.slice A3 nz c3) := Qw0_6.out.get 0 rfl
      have cw01 : w6.cell? ⟨b63, 1, none⟩ = some (.slice B3' mp d3) := Qw0_6.out.get 1 rfl
      go_wp2_with fail
      refine (eq_asm _ _ _ _ _ R.zs _ _ _ _ _ R.ps _ Ogi_6.out.sl Owi_6.out.sl Ogp_6.out.sl Owp_6.out.sl HNZ.out HMP.out (by omega) (by omega)).mono ?_
      rintro e w7 ⟨rfl, b7⟩
      clear lg0 cg00 cg01 lw0 cw00 cw01
      have Qa_7 := Lib.hid (Qa_6.out.below b7 Qa_6.out.lt)
      have Qb_7 := Lib.hid (Qb_6.out.below b7 Qb_6.out.lt)
      have Qw0_7 := Lib.hid (Qw0_6.out.below b7 Qw0_6.out.lt)
      have Owi_7 := Lib.hid (Owi_6.out.below b7 (Nat.le_refl _))
      have Owp_7 := Lib.hid (Owp_6.out.below b7 (Nat.le_refl _))
      have Owm_7 := Lib.hid (Owm_6.out.below b7 (Nat.le_refl _))
      have Oxi_7 := Lib.hid (Oxi_6.out.below b7 (Nat.le_refl _))
      have Oxp_7 := Lib.hid (Oxp_6.out.below b7 (Nat.le_refl _))
      have Qx_7 := Lib.hid (Qx_6.out.below b7 Qx_6.out.lt)
      have Qg0_7 := Lib.hid (Qg0_6.out.below b7 Qg0_6.out.lt)
      have Ogi_7 := Lib.hid (Ogi_6.out.below b7 (Nat.le_refl _))
      have Ogp_7 := Lib.hid (Ogp_6.out.below b7 (Nat.le_refl _))
      have Ogm_7 := Lib.hid (Ogm_6.out.below b7 (Nat.le_refl _))
      have s7 := b7.size
      have B7 := Lib.hid (bstep B6.out b7 B6.out.size)
      have le7 : w6.heap.size ≤ w7.heap.size := by simpa using s7
      clear s7
      clear b7
      go_wp2_with fail
      refine (eq_msgs _ _ _ _ _ R.ms _ Ogm_7.out.sl Owm_7.out.sl HQS.out (by omega)).mono ?_
      rintro e w8 ⟨rfl, b8⟩
      have Qa_8 := Lib.hid (Qa_7.out.below b8 Qa_7.out.lt)
      have Qb_8 := Lib.hid (Qb_7.out.below b8 Qb_7.out.lt)
      have Qw0_8 := Lib.hid (Qw0_7.out.below b8 Qw0_7.out.lt)
      have Owi_8 := Lib.hid (Owi_7.out.below b8 (Nat.le_refl _))
      have Owp_8 := Lib.hid (Owp_7.out.below b8 (Nat.le_refl _))
      have Owm_8 := Lib.hid (Owm_7.out.below b8 (Nat.le_refl _))
      have Oxi_8 := Lib.hid (Oxi_7.out.below b8 (Nat.le_refl _))
      have Oxp_8 := Lib.hid (Oxp_7.out.below b8 (Nat.le_refl _))
      have Qx_8 := Lib.hid (Qx_7.out.below b8 Qx_7.out.lt)
      have Qg0_8 := Lib.hid (Qg0_7.out.below b8 Qg0_7.out.lt)
      have Ogi_8 := Lib.hid (Ogi_7.out.below b8 (Nat.le_refl _))
      have Ogp_8 := Lib.hid (Ogp_7.out.below b8 (Nat.le_refl _))
      have Ogm_8 := Lib.hid (Ogm_7.out.below b8 (Nat.le_refl _))
      have s8 := b8.size
      have B8 := Lib.hid (bstep B7.out b8 B7.out.size)
      have le8 : w7.heap.size ≤ w8.heap.size := by simpa using s8
      clear s8
      clear b8
      have la : w.heap.size < w8.heap.size := Qa_8.out.lt
      have ca0 : w8.cell? ⟨w.heap.size, 0, none⟩ = some (.slice A n c) := Qa_8.out.get 0 rfl
      have ca1 : w8.cell? ⟨w.heap.size, 1, none⟩ = some (.slice A2 m d) := Qa_8.out.get 1 rfl
      have lx : w4.heap.size < w8.heap.size := Qx_8.out.lt
      have cx0 : w8.cell? ⟨w4.heap.size, 0, none⟩ = some (.slice A5 n c5) := Qx_8.out.get 0 rfl
      have cx1 : w8.cell? ⟨w4.heap.size, 1, none⟩ = some (.slice E5 m d5) := Qx_8.out.get 1 rfl
      go_wp2_with fail
      go_region_held3 (fun w' => w'.cell? ⟨w4.heap.size, 0, none⟩ = some (.slice A5 n c5) ∧ w'.cell? ⟨w4.heap.size, 1, none⟩ = some (.slice E5 m d5) ∧ w'.cell? ⟨w.heap.size, 0, none⟩ = some (.slice A n c) ∧ w'.cell? ⟨w.heap.size, 1, none⟩ = some (.slice A2 m d)) (first | exact ⟨cx0, cx1, ca0, ca1⟩ | exact ⟨dx0, dx1, da0, da1⟩ | exact ⟨ex0, ex1, ea0, ea1⟩ | go_keep)
        (first
          | (go_at_call 18; refine (to_asm _ _ _ zs _ _ _ ps _ ((HS.out.below B8.out.drew (Nat.le_refl _)).more B8.out.size) ((HP.out.below B8.out.drew (Nat.le_refl _)).more B8.out.size) HN.out HM.out hn6 hm6).mono ?_; rintro e w9 ⟨A7, c7, E7, d7, rfl, o7, p7, b9⟩; have Qa_9 := Lib.hid (Qa_8.out.drew.below b9 Qa_8.out.lt); have Qb_9 := Lib.hid (Qb_8.out.drew.below b9 Qb_8.out.lt); have Qw0_9 := Lib.hid (Qw0_8.out.drew.below b9 Qw0_8.out.lt); have Owi_9 := Lib.hid (Owi_8.out.drew.below b9 (Nat.le_refl _)); have Owp_9 := Lib.hid (Owp_8.out.drew.below b9 (Nat.le_refl _)); have Owm_9 := Lib.hid (Owm_8.out.drew.below b9 (Nat.le_refl _)); have Oxi_9 := Lib.hid (Oxi_8.out.drew.below b9 (Nat.le_refl _)); have Oxp_9 := Lib.hid (Oxp_8.out.drew.below b9 (Nat.le_refl _)); have Qx_9 := Lib.hid (Qx_8.out.drew.below b9 Qx_8.out.lt); have Qg0_9 := Lib.hid (Qg0_8.out.drew.below b9 Qg0_8.out.lt); have Ogi_9 := Lib.hid (Ogi_8.out.drew.below b9 (Nat.le_refl _)); have Ogp_9 := Lib.hid (Ogp_8.out.drew.below b9 (Nat.le_refl _)); have Ogm_9 := Lib.hid (Ogm_8.out.drew.below b9 (Nat.le_refl _)); have Oti_9 := Lib.hid o7; have Otp_9 := Lib.hid p7; have B9 := Lib.hid (bstep B8.out.drew b9 B8.out.size); have le9 : w8.heap.size ≤ w9.heap.size := b9.size; have dx0 : w9.cell? ⟨w4.heap.size, 0, none⟩ = some (.slice A5 n c5) := Qx_9.out.get 0 rfl; have dx1 : w9.cell? ⟨w4.heap.size, 1, none⟩ = some (.slice E5 m d5) := Qx_9.out.get 1 rfl; have da0 : w9.cell? ⟨w.heap.size, 0, none⟩ = some (.slice A n c) := Qa_9.out.get 0 rfl; have da1 : w9.cell? ⟨w.heap.size, 1, none⟩ = some (.slice A2 m d) := Qa_9.out.get 1 rfl; clear b9 o7 p7)
          | (go_at_call 21; refine (eq_asm _ _ _ _ _ zs _ _ _ _ _ ps _ Oxi_9.out.sl Oti_9.out.sl Oxp_9.out.sl Otp_9.out.sl HN.out HM.out hn7 hm7).mono ?_; rintro e w10 ⟨rfl, b10⟩; have ex0 : w10.cell? ⟨w4.heap.size, 0, none⟩ = some (.slice A5 n c5) := (Qx_9.out.below b10 Qx_9.out.lt).get 0 rfl; have ex1 : w10.cell? ⟨w4.heap.size, 1, none⟩ = some (.slice E5 m d5) := (Qx_9.out.below b10 Qx_9.out.lt).get 1 rfl; have ea0 : w10.cell? ⟨w.heap.size, 0, none⟩ = some (.slice A n c) := (Qa_9.out.below b10 Qa_9.out.lt).get 0 rfl; have ea1 : w10.cell? ⟨w.heap.size, 1, none⟩ = some (.slice A2 m d) := (Qa_9.out.below b10 Qa_9.out.lt).get 1 rfl; have BB10 := Lib.hid b10; clear b10))
      have b10 := BB10.out
      clear cx0 cx1 ca0 ca1 dx0 dx1 da0 da1 ex0 ex1 ea0 ea1
      clear la lx
      have Qa_10 := Lib.hid (Qa_9.out.below b10 Qa_9.out.lt)
      have Qb_10 := Lib.hid (Qb_9.out.below b10 Qb_9.out.lt)
      have Qw0_10 := Lib.hid (Qw0_9.out.below b10 Qw0_9.out.lt)
      have Owi_10 := Lib.hid (Owi_9.out.below b10 (Nat.le_refl _))
      have Owp_10 := Lib.hid (Owp_9.out.below b10 (Nat.le_refl _))
      have Owm_10 := Lib.hid (Owm_9.out.below b10 (Nat.le_refl _))
      have Oxi_10 := Lib.hid (Oxi_9.out.below b10 (Nat.le_refl _))
      have Oxp_10 := Lib.hid (Oxp_9.out.below b10 (Nat.le_refl _))
      have Qx_10 := Lib.hid (Qx_9.out.below b10 Qx_9.out.lt)
      have Qg0_10 := Lib.hid (Qg0_9.out.below b10 Qg0_9.out.lt)
      have Ogi_10 := Lib.hid (Ogi_9.out.below b10 (Nat.le_refl _))
      have Ogp_10 := Lib.hid (Ogp_9.out.below b10 (Nat.le_refl _))
      have Ogm_10 := Lib.hid (Ogm_9.out.below b10 (Nat.le_refl _))
      have Oti_10 := Lib.hid (Oti_9.out.below b10 (Nat.le_refl _))
      have Otp_10 := Lib.hid (Otp_9.out.below b10 (Nat.le_refl _))
      have s10 := b10.size
      have B10 := Lib.hid (bstep B9.out b10 B9.out.size)
      have le10 : w9.heap.size ≤ w10.heap.size := by simpa using s10
      clear s10
      clear b10
      have lx : w4.heap.size < w10.heap.size := Qx_10.out.lt
      have cx0 : w10.cell? ⟨w4.heap.size, 0, none⟩ = some (.slice A5 n c5) := Qx_10.out.get 0 rfl
      have cx1 : w10.cell? ⟨w4.heap.size, 1, none⟩ = some (.slice E5 m d5) := Qx_10.out.get 1 rfl
      go_wp2_with fail
      refine (mark_asm2 _ _ _ zs _ _ _ ps 1 _ _ Oxi_10.out Oxp_10.out (by omega) hn6 hm6).mono ?_
      rintro e w12 ⟨rfl, w11, row11, row12, g11', r11, o11, g12', r12, o12⟩
      clear lx cx0 cx1
      have Qa_11 := Lib.hid (blk_marked Qa_10.out Oxi_10.out (by decide) g11' r11)
      have Qb_11 := Lib.hid (blk_marked Qb_10.out Oxi_10.out (by decide) g11' r11)
      have Qw0_11 := Lib.hid (blk_marked Qw0_10.out Oxi_10.out (by decide) g11' r11)
      have Owi_11 := Lib.hid (own_marked Owi_10.out Oxi_10.out g11' r11 (fun a b ha hb => by
        have p1 := Oxi_4.out.blk a ha
        have p2 := Owi_3.out.blk b hb
        try simp only [World.size_alloc, World.size_drew] at p1 p2
        omega))
      have Owp_11 := Lib.hid (own_held Owp_10.out Oxi_10.out (by decide) g11' r11)
      have Owm_11 := Lib.hid (own_held Owm_10.out Oxi_10.out (by decide) g11' r11)
      have Oxi_11 := Lib.hid o11
      have Oxp_11 := Lib.hid (own_held Oxp_10.out Oxi_10.out (by decide) g11' r11)
      have Qx_11 := Lib.hid (blk_marked Qx_10.out Oxi_10.out (by decide) g11' r11)
      have Qg0_11 := Lib.hid (blk_marked Qg0_10.out Oxi_10.out (by decide) g11' r11)
      have Ogi_11 := Lib.hid (own_marked Ogi_10.out Oxi_10.out g11' r11 (fun a b ha hb => by
        have p1 := Oxi_4.out.blk a ha
        have p2 := Ogi_6.out.blk b hb
        try simp only [World.size_alloc, World.size_drew] at p1 p2
        omega))
      have Ogp_11 := Lib.hid (own_held Ogp_10.out Oxi_10.out (by decide) g11' r11)
      have Ogm_11 := Lib.hid (own_held Ogm_10.out Oxi_10.out (by decide) g11' r11)
      have Oti_11 := Lib.hid (own_marked Oti_10.out Oxi_10.out g11' r11 (fun a b ha hb => by
        have p1 := Oxi_4.out.blk a ha
        have p2 := Oti_9.out.blk b hb
        try simp only [World.size_alloc, World.size_drew] at p1 p2
        omega))
      have Otp_11 := Lib.hid (own_held Otp_10.out Oxi_10.out (by decide) g11' r11)
      have le11 : w10.heap.size ≤ w11.heap.size := g11'.size
      have B11 := Lib.hid (below_marked B10.out Oxi_10.out (by (try simp only [World.size_alloc, World.size_drew]); omega) g11' r11)
      clear o11 g11' r11
      have Qa_12 := Lib.hid (blk_marked Qa_11.out Oxp_11.out (by decide) g12' r12)
      have Qb_12 := Lib.hid (blk_marked Qb_11.out Oxp_11.out (by decide) g12' r12)
      have Qw0_12 := Lib.hid (blk_marked Qw0_11.out Oxp_11.out (by decide) g12' r12)
      have Owi_12 := Lib.hid (own_held Owi_11.out Oxp_11.out (by decide) g12' r12)
      have Owp_12 := Lib.hid (own_marked Owp_11.out Oxp_11.out g12' r12 (fun a b ha hb => by
        have p1 := Oxp_4.out.blk a ha
        have p2 := Owp_3.out.blk b hb
        try simp only [World.size_alloc, World.size_drew] at p1 p2
        omega))
      have Owm_12 := Lib.hid (own_held Owm_11.out Oxp_11.out (by decide) g12' r12)
      have Oxi_12 := Lib.hid (own_held Oxi_11.out Oxp_11.out (by decide) g12' r12)
      have Oxp_12 := Lib.hid o12
      have Qx_12 := Lib.hid (blk_marked Qx_11.out Oxp_11.out (by decide) g12' r12)
      have Qg0_12 := Lib.hid (blk_marked Qg0_11.out Oxp_11.out (by decide) g12' r12)
      have Ogi_12 := Lib.hid (own_held Ogi_11.out Oxp_11.out (by decide) g12' r12)
      have Ogp_12 := Lib.hid (own_marked Ogp_11.out Oxp_11.out g12' r12 (fun a b ha hb => by
        have p1 := Oxp_4.out.blk a ha
        have p2 := Ogp_6.out.blk b hb
        try simp only [World.size_alloc, World.size_drew] at p1 p2
        omega))
      have Ogm_12 := Lib.hid (own_held Ogm_11.out Oxp_11.out (by decide) g12' r12)
      have Oti_12 := Lib.hid (own_held Oti_11.out Oxp_11.out (by decide) g12' r12)
      have Otp_12 := Lib.hid (own_marked Otp_11.out Oxp_11.out g12' r12 (fun a b ha hb => by
        have p1 := Oxp_4.out.blk a ha
        have p2 := Otp_9.out.blk b hb
        try simp only [World.size_alloc, World.size_drew] at p1 p2
        omega))
      have le12 : w11.heap.size ≤ w12.heap.size := g12'.size
      have B12 := Lib.hid (below_marked B11.out Oxp_11.out (by (try simp only [World.size_alloc, World.size_drew]); omega) g12' r12)
      clear o12 g12' r12
      have lg0 : b66 < w12.heap.size := Qg0_12.out.lt
      have cg00 : w12.cell? ⟨b66, 0, none⟩ = some (.slice A6 nz c6) := Qg0_12.out.get 0 rfl
      have cg01 : w12.cell? ⟨b66, 1, none⟩ = some (.slice B6' mp d6) := Qg0_12.out.get 1 rfl
      have lw0 : b63 < w12.heap.size := Qw0_12.out.lt
      have cw00 : w12.cell? ⟨b63, 0, none⟩ = some (.slice A3 nz c3) := Qw0_12.out.get 0 rfl
      have cw01 : w12.cell? ⟨b63, 1, none⟩ = some (.slice B3' mp d3) := Qw0_12.out.get 1 rfl
      have hk0 : ¬ (((1 + n + 7 * m : Nat) : Int)) < 0 := by omega
      go_wp2_with fail
      refine (eq_asm _ _ _ _ _ R.zs _ _ _ _ _ R.ps _ Ogi_12.out.sl Owi_12.out.sl Ogp_12.out.sl Owp_12.out.sl HNZ.out HMP.out (by omega) (by omega)).mono ?_
      rintro e w13 ⟨rfl, b13⟩
      clear lg0 cg00 cg01 lw0 cw00 cw01
      have Qa_13 := Lib.hid (Qa_12.out.below b13 Qa_12.out.lt)
      have Qb_13 := Lib.hid (Qb_12.out.below b13 Qb_12.out.lt)
      have Qw0_13 := Lib.hid (Qw0_12.out.below b13 Qw0_12.out.lt)
      have Owi_13 := Lib.hid (Owi_12.out.below b13 (Nat.le_refl _))
      have Owp_13 := Lib.hid (Owp_12.out.below b13 (Nat.le_refl _))
      have Owm_13 := Lib.hid (Owm_12.out.below b13 (Nat.le_refl _))
      have Oxi_13 := Lib.hid (Oxi_12.out.below b13 (Nat.le_refl _))
      have Oxp_13 := Lib.hid (Oxp_12.out.below b13 (Nat.le_refl _))
      have Qx_13 := Lib.hid (Qx_12.out.below b13 Qx_12.out.lt)
      have Qg0_13 := Lib.hid (Qg0_12.out.below b13 Qg0_12.out.lt)
      have Ogi_13 := Lib.hid (Ogi_12.out.below b13 (Nat.le_refl _))
      have Ogp_13 := Lib.hid (Ogp_12.out.below b13 (Nat.le_refl _))
      have Ogm_13 := Lib.hid (Ogm_12.out.below b13 (Nat.le_refl _))
      have Oti_13 := Lib.hid (Oti_12.out.below b13 (Nat.le_refl _))
      have Otp_13 := Lib.hid (Otp_12.out.below b13 (Nat.le_refl _))
      have s13 := b13.size
      have B13 := Lib.hid (bstep B12.out b13 B12.out.size)
      have le13 : w12.heap.size ≤ w13.heap.size := by simpa using s13
      clear s13
      clear b13
      go_wp2_with fail
      refine (eq_msgs _ _ _ _ _ R.ms _ Ogm_13.out.sl Owm_13.out.sl HQS.out (by omega)).mono ?_
      rintro e w14 ⟨rfl, b14⟩
      have Qa_14 := Lib.hid (Qa_13.out.below b14 Qa_13.out.lt)
      have Qb_14 := Lib.hid (Qb_13.out.below b14 Qb_13.out.lt)
      have Qw0_14 := Lib.hid (Qw0_13.out.below b14 Qw0_13.out.lt)
      have Owi_14 := Lib.hid (Owi_13.out.below b14 (Nat.le_refl _))
      have Owp_14 := Lib.hid (Owp_13.out.below b14 (Nat.le_refl _))
      have Owm_14 := Lib.hid (Owm_13.out.below b14 (Nat.le_refl _))
      have Oxi_14 := Lib.hid (Oxi_13.out.below b14 (Nat.le_refl _))
      have Oxp_14 := Lib.hid (Oxp_13.out.below b14 (Nat.le_refl _))
      have Qx_14 := Lib.hid (Qx_13.out.below b14 Qx_13.out.lt)
      have Qg0_14 := Lib.hid (Qg0_13.out.below b14 Qg0_13.out.lt)
      have Ogi_14 := Lib.hid (Ogi_13.out.below b14 (Nat.le_refl _))
      have Ogp_14 := Lib.hid (Ogp_13.out.below b14 (Nat.le_refl _))
      have Ogm_14 := Lib.hid (Ogm_13.out.below b14 (Nat.le_refl _))
      have Oti_14 := Lib.hid (Oti_13.out.below b14 (Nat.le_refl _))
      have Otp_14 := Lib.hid (Otp_13.out.below b14 (Nat.le_refl _))
      have s14 := b14.size
      have B14 := Lib.hid (bstep B13.out b14 B13.out.size)
      have le14 : w13.heap.size ≤ w14.heap.size := by simpa using s14
      clear s14
      clear b14
      have lg0 : b66 < w14.heap.size := Qg0_14.out.lt
      have cg00 : w14.cell? ⟨b66, 0, none⟩ = some (.slice A6 nz c6) := Qg0_14.out.get 0 rfl
      have cg01 : w14.cell? ⟨b66, 1, none⟩ = some (.slice B6' mp d6) := Qg0_14.out.get 1 rfl
      go_wp2_with fail
      refine (mark_asm2 _ _ _ R.zs _ _ _ R.ps 1 _ _ Ogi_14.out Ogp_14.out (by omega) (by omega) (by omega)).mono ?_
      rintro e w16 ⟨rfl, w15, row15, row16, g15', r15, o15, g16', r16, o16⟩
      clear lg0 cg00 cg01
      have Qa_15 := Lib.hid (blk_marked Qa_14.out Ogi_14.out (by decide) g15' r15)
      have Qb_15 := Lib.hid (blk_marked Qb_14.out Ogi_14.out (by decide) g15' r15)
      have Qw0_15 := Lib.hid (blk_marked Qw0_14.out Ogi_14.out (by decide) g15' r15)
      have Owi_15 := Lib.hid (own_marked Owi_14.out Ogi_14.out g15' r15 (fun a b ha hb => by
        have p1 := Ogi_6.out.blk a ha
        have p2 := Owi_3.out.blk b hb
        try simp only [World.size_alloc, World.size_drew] at p1 p2
        omega))
      have Owp_15 := Lib.hid (own_held Owp_14.out Ogi_14.out (by decide) g15' r15)
      have Owm_15 := Lib.hid (own_held Owm_14.out Ogi_14.out (by decide) g15' r15)
      have Oxi_15 := Lib.hid (own_marked Oxi_14.out Ogi_14.out g15' r15 (fun a b ha hb => by
        have p1 := Ogi_6.out.blk a ha
        have p2 := Oxi_4.out.blk b hb
        try simp only [World.size_alloc, World.size_drew] at p1 p2
        omega))
      have Oxp_15 := Lib.hid (own_held Oxp_14.out Ogi_14.out (by decide) g15' r15)
      have Qx_15 := Lib.hid (blk_marked Qx_14.out Ogi_14.out (by decide) g15' r15)
      have Qg0_15 := Lib.hid (blk_marked Qg0_14.out Ogi_14.out (by decide) g15' r15)
      have Ogi_15 := Lib.hid o15
      have Ogp_15 := Lib.hid (own_held Ogp_14.out Ogi_14.out (by decide) g15' r15)
      have Ogm_15 := Lib.hid (own_held Ogm_14.out Ogi_14.out (by decide) g15' r15)
      have Oti_15 := Lib.hid (own_marked Oti_14.out Ogi_14.out g15' r15 (fun a b ha hb => by
        have p1 := Ogi_6.out.blk a ha
        have p2 := Oti_9.out.blk b hb
        try simp only [World.size_alloc, World.size_drew] at p1 p2
        omega))
      have Otp_15 := Lib.hid (own_held Otp_14.out Ogi_14.out (by decide) g15' r15)
      have le15 : w14.heap.size ≤ w15.heap.size := g15'.size
      have B15 := Lib.hid (below_marked B14.out Ogi_14.out (by (try simp only [World.size_alloc, World.size_drew]); omega) g15' r15)
      clear o15 g15' r15
      have Qa_16 := Lib.hid (blk_marked Qa_15.out Ogp_15.out (by decide) g16' r16)
      have Qb_16 := Lib.hid (blk_marked Qb_15.out Ogp_15.out (by decide) g16' r16)
      have Qw0_16 := Lib.hid (blk_marked Qw0_15.out Ogp_15.out (by decide) g16' r16)
      have Owi_16 := Lib.hid (own_held Owi_15.out Ogp_15.out (by decide) g16' r16)
      have Owp_16 := Lib.hid (own_marked Owp_15.out Ogp_15.out g16' r16 (fun a b ha hb => by
        have p1 := Ogp_6.out.blk a ha
        have p2 := Owp_3.out.blk b hb
        try simp only [World.size_alloc, World.size_drew] at p1 p2
        omega))
      have Owm_16 := Lib.hid (own_held Owm_15.out Ogp_15.out (by decide) g16' r16)
      have Oxi_16 := Lib.hid (own_held Oxi_15.out Ogp_15.out (by decide) g16' r16)
      have Oxp_16 := Lib.hid (own_marked Oxp_15.out Ogp_15.out g16' r16 (fun a b ha hb => by
        have p1 := Ogp_6.out.blk a ha
        have p2 := Oxp_4.out.blk b hb
        try simp only [World.size_alloc, World.size_drew] at p1 p2
        omega))
      have Qx_16 := Lib.hid (blk_marked Qx_15.out Ogp_15.out (by decide) g16' r16)
      have Qg0_16 := Lib.hid (blk_marked Qg0_15.out Ogp_15.out (by decide) g16' r16)
      have Ogi_16 := Lib.hid (own_held Ogi_15.out Ogp_15.out (by decide) g16' r16)
      have Ogp_16 := Lib.hid o16
      have Ogm_16 := Lib.hid (own_held Ogm_15.out Ogp_15.out (by decide) g16' r16)
      have Oti_16 := Lib.hid (own_held Oti_15.out Ogp_15.out (by decide) g16' r16)
      have Otp_16 := Lib.hid (own_marked Otp_15.out Ogp_15.out g16' r16 (fun a b ha hb => by
        have p1 := Ogp_6.out.blk a ha
        have p2 := Otp_9.out.blk b hb
        try simp only [World.size_alloc, World.size_drew] at p1 p2
        omega))
      have le16 : w15.heap.size ≤ w16.heap.size := g16'.size
      have B16 := Lib.hid (below_marked B15.out Ogp_15.out (by (try simp only [World.size_alloc, World.size_drew]); omega) g16' r16)
      clear o16 g16' r16
      go_wp2_with fail
      refine (mark_msgs _ _ _ (1 + nz + 7 * mp) _ R.ms _ Ogm_16.out (by omega) (by omega)).mono ?_
      rintro e w17 ⟨rfl, o17, row17, g17', r17⟩
      have Qa_17 := Lib.hid (blk_marked Qa_16.out Ogm_16.out (by decide) g17' r17)
      have Qb_17 := Lib.hid (blk_marked Qb_16.out Ogm_16.out (by decide) g17' r17)
      have Qw0_17 := Lib.hid (blk_marked Qw0_16.out Ogm_16.out (by decide) g17' r17)
      have Owi_17 := Lib.hid (own_held Owi_16.out Ogm_16.out (by decide) g17' r17)
      have Owp_17 := Lib.hid (own_held Owp_16.out Ogm_16.out (by decide) g17' r17)
      have Owm_17 := Lib.hid (own_marked Owm_16.out Ogm_16.out g17' r17 (fun a b ha hb => by
        have p1 := Ogm_6.out.blk a ha
        have p2 := Owm_3.out.blk b hb
        try simp only [World.size_alloc, World.size_drew] at p1 p2
        omega))
      have Oxi_17 := Lib.hid (own_held Oxi_16.out Ogm_16.out (by decide) g17' r17)
      have Oxp_17 := Lib.hid (own_held Oxp_16.out Ogm_16.out (by decide) g17' r17)
      have Qx_17 := Lib.hid (blk_marked Qx_16.out Ogm_16.out (by decide) g17' r17)
      have Qg0_17 := Lib.hid (blk_marked Qg0_16.out Ogm_16.out (by decide) g17' r17)
      have Ogi_17 := Lib.hid (own_held Ogi_16.out Ogm_16.out (by decide) g17' r17)
      have Ogp_17 := Lib.hid (own_held Ogp_16.out Ogm_16.out (by decide) g17' r17)
      have Ogm_17 := Lib.hid o17
      have Oti_17 := Lib.hid (own_held Oti_16.out Ogm_16.out (by decide) g17' r17)
      have Otp_17 := Lib.hid (own_held Otp_16.out Ogm_16.out (by decide) g17' r17)
      have le17 : w16.heap.size ≤ w17.heap.size := g17'.size
      have B17 := Lib.hid (below_marked B16.out Ogm_16.out (by (try simp only [World.size_alloc, World.size_drew]); omega) g17' r17)
      clear o17 g17' r17
      have lg0 : b66 < w17.heap.size := Qg0_17.out.lt
      have cg00 : w17.cell? ⟨b66, 0, none⟩ = some (.slice A6 nz c6) := Qg0_17.out.get 0 rfl
      have cg01 : w17.cell? ⟨b66, 1, none⟩ = some (.slice B6' mp d6) := Qg0_17.out.get 1 rfl
      have hk1 : ¬ (((1 + nz + 7 * mp : Nat) : Int)) < 0 := by omega
      have hk2 : ¬ (((1 + nz + 7 * mp + 4 * qs : Nat) : Int)) < 0 := by omega
      go_wp2_with fail
      refine (held_asm2 _ _ _ _ _ _ 1 _ Ogi_17.out.sl Ogp_17.out.sl (by omega) (by omega) (by omega)).mono ?_
      rintro e w18 ⟨rfl, b18⟩
      clear lg0 cg00 cg01
      have Qa_18 := Lib.hid (Qa_17.out.below b18 Qa_17.out.lt)
      have Qb_18 := Lib.hid (Qb_17.out.below b18 Qb_17.out.lt)
      have Qw0_18 := Lib.hid (Qw0_17.out.below b18 Qw0_17.out.lt)
      have Owi_18 := Lib.hid (Owi_17.out.below b18 (Nat.le_refl _))
      have Owp_18 := Lib.hid (Owp_17.out.below b18 (Nat.le_refl _))
      have Owm_18 := Lib.hid (Owm_17.out.below b18 (Nat.le_refl _))
      have Oxi_18 := Lib.hid (Oxi_17.out.below b18 (Nat.le_refl _))
      have Oxp_18 := Lib.hid (Oxp_17.out.below b18 (Nat.le_refl _))
      have Qx_18 := Lib.hid (Qx_17.out.below b18 Qx_17.out.lt)
      have Qg0_18 := Lib.hid (Qg0_17.out.below b18 Qg0_17.out.lt)
      have Ogi_18 := Lib.hid (Ogi_17.out.below b18 (Nat.le_refl _))
      have Ogp_18 := Lib.hid (Ogp_17.out.below b18 (Nat.le_refl _))
      have Ogm_18 := Lib.hid (Ogm_17.out.below b18 (Nat.le_refl _))
      have Oti_18 := Lib.hid (Oti_17.out.below b18 (Nat.le_refl _))
      have Otp_18 := Lib.hid (Otp_17.out.below b18 (Nat.le_refl _))
      have s18 := b18.size
      have B18 := Lib.hid (bstep B17.out b18 B17.out.size)
      have le18 : w17.heap.size ≤ w18.heap.size := by simpa using s18
      clear s18
      clear b18
      go_wp2_with fail
      refine (held_msgs _ _ _ (1 + nz + 7 * mp) _ Ogm_18.out.sl (by omega) (by omega)).mono ?_
      rintro e w19 ⟨rfl, b19⟩
      have Qa_19 := Lib.hid (Qa_18.out.below b19 Qa_18.out.lt)
      have Qb_19 := Lib.hid (Qb_18.out.below b19 Qb_18.out.lt)
      have Qw0_19 := Lib.hid (Qw0_18.out.below b19 Qw0_18.out.lt)
      have Owi_19 := Lib.hid (Owi_18.out.below b19 (Nat.le_refl _))
      have Owp_19 := Lib.hid (Owp_18.out.below b19 (Nat.le_refl _))
      have Owm_19 := Lib.hid (Owm_18.out.below b19 (Nat.le_refl _))
      have Oxi_19 := Lib.hid (Oxi_18.out.below b19 (Nat.le_refl _))
      have Oxp_19 := Lib.hid (Oxp_18.out.below b19 (Nat.le_refl _))
      have Qx_19 := Lib.hid (Qx_18.out.below b19 Qx_18.out.lt)
      have Qg0_19 := Lib.hid (Qg0_18.out.below b19 Qg0_18.out.lt)
      have Ogi_19 := Lib.hid (Ogi_18.out.below b19 (Nat.le_refl _))
      have Ogp_19 := Lib.hid (Ogp_18.out.below b19 (Nat.le_refl _))
      have Ogm_19 := Lib.hid (Ogm_18.out.below b19 (Nat.le_refl _))
      have Oti_19 := Lib.hid (Oti_18.out.below b19 (Nat.le_refl _))
      have Otp_19 := Lib.hid (Otp_18.out.below b19 (Nat.le_refl _))
      have s19 := b19.size
      have B19 := Lib.hid (bstep B18.out b19 B18.out.size)
      have le19 : w18.heap.size ≤ w19.heap.size := by simpa using s19
      clear s19
      clear b19
      have la : w.heap.size < w19.heap.size := Qa_19.out.lt
      have ca0 : w19.cell? ⟨w.heap.size, 0, none⟩ = some (.slice A n c) := Qa_19.out.get 0 rfl
      have ca1 : w19.cell? ⟨w.heap.size, 1, none⟩ = some (.slice A2 m d) := Qa_19.out.get 1 rfl
      have lb : w.heap.size + 1 < w19.heap.size := Qb_19.out.lt
      have cb0 : w19.cell? ⟨w.heap.size + 1, 0, none⟩ = some (.int .i64 g0) := Qb_19.out.get 0 rfl
      have cb1 : w19.cell? ⟨w.heap.size + 1, 1, none⟩ = some (.int .i64 g1) := Qb_19.out.get 1 rfl
      have cb2 : w19.cell? ⟨w.heap.size + 1, 2, none⟩ = some (.int .i64 g2) := Qb_19.out.get 2 rfl
      have cb3 : w19.cell? ⟨w.heap.size + 1, 3, none⟩ = some (.bool g3) := Qb_19.out.get 3 rfl
      have cb4 : w19.cell? ⟨w.heap.size + 1, 4, none⟩ = some (.bool g4) := Qb_19.out.get 4 rfl
      have cb5 : w19.cell? ⟨w.heap.size + 1, 5, none⟩ = some (.bool g5) := Qb_19.out.get 5 rfl
      have cb6 : w19.cell? ⟨w.heap.size + 1, 6, none⟩ = some (.string g6) := Qb_19.out.get 6 rfl
      go_upto_region 31 with fail
      clear la ca0 ca1 lb cb0 cb1 cb2 cb3 cb4 cb5 cb6
      have la : w.heap.size < w19.heap.size := Qa_19.out.lt
      have ca0 : w19.cell? ⟨w.heap.size, 0, none⟩ = some (.slice A n c) := Qa_19.out.get 0 rfl
      have ca1 : w19.cell? ⟨w.heap.size, 1, none⟩ = some (.slice A2 m d) := Qa_19.out.get 1 rfl
      have lb : w.heap.size + 1 < w19.heap.size := Qb_19.out.lt
      have cb0 : w19.cell? ⟨w.heap.size + 1, 0, none⟩ = some (.int .i64 g0) := Qb_19.out.get 0 rfl
      have cb1 : w19.cell? ⟨w.heap.size + 1, 1, none⟩ = some (.int .i64 g1) := Qb_19.out.get 1 rfl
      have cb2 : w19.cell? ⟨w.heap.size + 1, 2, none⟩ = some (.int .i64 g2) := Qb_19.out.get 2 rfl
      have cb3 : w19.cell? ⟨w.heap.size + 1, 3, none⟩ = some (.bool g3) := Qb_19.out.get 3 rfl
      have cb4 : w19.cell? ⟨w.heap.size + 1, 4, none⟩ = some (.bool g4) := Qb_19.out.get 4 rfl
      have cb5 : w19.cell? ⟨w.heap.size + 1, 5, none⟩ = some (.bool g5) := Qb_19.out.get 5 rfl
      have cb6 : w19.cell? ⟨w.heap.size + 1, 6, none⟩ = some (.string g6) := Qb_19.out.get 6 rfl
      go_cut [16, 17, 18] (fun v6 v7 v8 wx => AddedTo R w19 v6 v7 v8 wx)
      case first =>
        refine wp_region_held_drew (S := fun w' => w'.cell? ⟨w.heap.size, 0, none⟩ = some (.slice A n c) ∧ w'.cell? ⟨w.heap.size, 1, none⟩ = some (.slice A2 m d) ∧ w'.cell? ⟨w.heap.size + 1, 0, none⟩ = some (.int .i64 g0) ∧ w'.cell? ⟨w.heap.size + 1, 1, none⟩ = some (.int .i64 g1) ∧ w'.cell? ⟨w.heap.size + 1, 2, none⟩ = some (.int .i64 g2) ∧ w'.cell? ⟨w.heap.size + 1, 3, none⟩ = some (.bool g3) ∧ w'.cell? ⟨w.heap.size + 1, 4, none⟩ = some (.bool g4) ∧ w'.cell? ⟨w.heap.size + 1, 5, none⟩ = some (.bool g5) ∧ w'.cell? ⟨w.heap.size + 1, 6, none⟩ = some (.string g6)) (by kernel_rfl) (by first | exact ⟨ca0, ca1, cb0, cb1, cb2, cb3, cb4, cb5, cb6⟩ | go_keep) (fun hHeld => ?_)
        refine wpAnyH_take (i := 0) (oi := ⟨some 110, _, _, _, _, _⟩) (v := ?_) rfl (by kernel_rfl) (by kernel_rfl) (by kernel_rfl) (fun _ _ _ h => h) (Or.inl ⟨by kernel_rfl, ?y47⟩) (by assumption) ?_
        case y47 => (intro w hSw; (try dsimp only at hSw); first | (go_simp; done) | (go_simp; with_reducible rfl))
        simp only [Act.put, List.setIfInBounds_toArray, List.set_cons_zero, List.set_cons_succ]
        refine wpAnyH_take (i := 2) (oi := ⟨some 112, _, _, _, _, _⟩) (v := ?_) rfl (by kernel_rfl) (by kernel_rfl) (by kernel_rfl) (fun _ _ _ h => h) (Or.inl ⟨by kernel_rfl, ?y48⟩) (by assumption) ?_
        case y48 => (intro w hSw; (try dsimp only at hSw); first | (go_simp; done) | (go_simp; with_reducible rfl))
        simp only [Act.put, List.setIfInBounds_toArray, List.set_cons_zero, List.set_cons_succ]
        refine wpAnyH_ready (rs := [1, 9]) (by kernel_rfl) (by simp) ?_
        refine AllReadyH.cons (o := ⟨some 111, _, _, _, _, _⟩) rfl (fun K hK => ?_) ?_
        · skip
          (go_simp; go_at_call 18; (with_reducible refine (to_asm _ _ _ zs _ _ _ ps _ ((HS.out.below (B19.out.drew) (Nat.le_refl _)).more (B19.out.drew).size) ((HP.out.below (B19.out.drew) (Nat.le_refl _)).more (B19.out.drew).size) HN.out HM.out hn6 hm6).mono ?_); rintro e x19_1 ⟨A19_1, c19_1, B19_1, d19_1, rfl, o19_1, p19_1, b19_1⟩; have Bw19_1 := Lib.hid (bstep (B19.out.drew) b19_1 (B19.out.drew).size); have Bo19_1 := Lib.hid (bstep ((Below.refl w19.heap.size w19).drew) b19_1 ((Below.refl w19.heap.size w19).drew).size); have z19_1 : w19.heap.size ≤ x19_1.heap.size := Bo19_1.out.size; have Qa19_1 := Lib.hid ((Qa_19.out.drew).below b19_1 (Qa_19.out.drew).lt); have Qb19_1 := Lib.hid ((Qb_19.out.drew).below b19_1 (Qb_19.out.drew).lt); have Oi19_1 := Lib.hid o19_1; have Op19_1 := Lib.hid p19_1; have k19_1 := capsOf p19_1; clear o19_1 p19_1; first | go_wp2_with fail | skip)
          refine hK.out _ _ (by first | exact ⟨(Qa19_1.out).get 0 rfl, (Qa19_1.out).get 1 rfl, (Qb19_1.out).get 0 rfl, (Qb19_1.out).get 1 rfl, (Qb19_1.out).get 2 rfl, (Qb19_1.out).get 3 rfl, (Qb19_1.out).get 4 rfl, (Qb19_1.out).get 5 rfl, (Qb19_1.out).get 6 rfl⟩) (fun hHeld => ?_)
          clear hK K
          try simp only [Act.put, List.setIfInBounds_toArray, List.set_cons_zero, List.set_cons_succ]
          refine wpAnyH_ready (rs := [3, 9]) (by kernel_rfl) (by simp) ?_
          refine AllReadyH.cons (o := ⟨some 113, _, _, _, _, _⟩) rfl (fun K hK => ?_) ?_
          · skip
            (go_simp; go_at_call 19; (with_reducible refine (to_data g0 g1 g2 g3 g4 g5 g6 _).mono ?_); rintro e x19_2 ⟨rfl, b19_2⟩; have Bw19_2 := Lib.hid (bstep (Bw19_1.out) b19_2 (Bw19_1.out).size); have Bo19_2 := Lib.hid (bstep (Bo19_1.out) b19_2 (Bo19_1.out).size); have z19_2 : w19.heap.size ≤ x19_2.heap.size := Bo19_2.out.size; have Qa19_2 := Lib.hid ((Qa19_1.out).below b19_2 (Qa19_1.out).lt); have Qb19_2 := Lib.hid ((Qb19_1.out).below b19_2 (Qb19_1.out).lt); have Oi19_2 := Lib.hid ((Oi19_1.out).below b19_2 (Nat.le_refl _)); have Op19_2 := Lib.hid ((Op19_1.out).below b19_2 (Nat.le_refl _)); first | go_wp2_with fail | skip)
            refine hK.out _ _ (by first | exact ⟨(Qa19_2.out).get 0 rfl, (Qa19_2.out).get 1 rfl, (Qb19_2.out).get 0 rfl, (Qb19_2.out).get 1 rfl, (Qb19_2.out).get 2 rfl, (Qb19_2.out).get 3 rfl, (Qb19_2.out).get 4 rfl, (Qb19_2.out).get 5 rfl, (Qb19_2.out).get 6 rfl⟩) (fun hHeld => ?_)
            clear hK K
            try simp only [Act.put, List.setIfInBounds_toArray, List.set_cons_zero, List.set_cons_succ]
            refine wpAnyH_ready (rs := [4, 9]) (by kernel_rfl) (by simp) ?_
            refine AllReadyH.cons (o := ⟨some 114, _, _, _, _, _⟩) rfl (fun K hK => ?_) ?_
            · skip
              (go_simp; go_at_call 20; (with_reducible refine (iasm_add _ _ _ zs _ _ _ ps g0 g1 g2 g3 g4 g5 g6 HR.out _ (Oi19_2.out).sl (Op19_2.out).sl HN.out HM.out hn7 k19_1.1 k19_1.2 HT.out hg).mono ?_); rintro e x19_3 ⟨A19_3, n19_3, c19_3, B19_3, m19_3, d19_3, C19_3, q19_3, e19_3, rfl, h119_3, h219_3, h319_3, o119_3, o319_3, os19_3, b19_3⟩; have Bw19_3 := Lib.hid (bstep (Bw19_2.out) b19_3 (Bw19_2.out).size); have Bo19_3 := Lib.hid (bstep (Bo19_2.out) b19_3 (Bo19_2.out).size); have z19_3 : w19.heap.size ≤ x19_3.heap.size := Bo19_3.out.size; have Qa19_3 := Lib.hid ((Qa19_2.out).below b19_3 (Qa19_2.out).lt); have Qb19_3 := Lib.hid ((Qb19_2.out).below b19_3 (Qb19_2.out).lt); have Oi19_3 := Lib.hid ((Oi19_2.out).below b19_3 (Nat.le_refl _)); have Op19_3 := Lib.hid ((Op19_2.out).below b19_3 (Nat.le_refl _)); first | go_wp2_with fail | skip)
              refine hK.out _ _ (by first | exact ⟨(Qa19_3.out).get 0 rfl, (Qa19_3.out).get 1 rfl, (Qb19_3.out).get 0 rfl, (Qb19_3.out).get 1 rfl, (Qb19_3.out).get 2 rfl, (Qb19_3.out).get 3 rfl, (Qb19_3.out).get 4 rfl, (Qb19_3.out).get 5 rfl, (Qb19_3.out).get 6 rfl⟩) (fun hHeld => ?_)
              clear hK K
              try simp only [Act.put, List.setIfInBounds_toArray, List.set_cons_zero, List.set_cons_succ]
              refine wpAnyH_take (i := 5) (oi := ⟨some 109, _, _, _, _, _⟩) (v := ?_) rfl (by kernel_rfl) (by kernel_rfl) (by kernel_rfl) (fun _ _ _ h => h) (Or.inl ⟨by kernel_rfl, ?y49⟩) (by assumption) ?_
              case y49 => (intro w hSw; (try dsimp only at hSw); first | (go_simp; done) | (go_simp; with_reducible rfl))
              simp only [Act.put, List.setIfInBounds_toArray, List.set_cons_zero, List.set_cons_succ]
              refine wpAnyH_take (i := 6) (oi := ⟨some 115, _, _, _, _, _⟩) (v := ?_) rfl (by kernel_rfl) (by kernel_rfl) (by kernel_rfl) (fun _ _ _ h => h) (Or.inl ⟨by kernel_rfl, ?y50⟩) (by assumption) ?_
              case y50 => (intro w hSw; (try dsimp only at hSw); first | (go_simp; done) | (go_simp; with_reducible rfl))
              simp only [Act.put, List.setIfInBounds_toArray, List.set_cons_zero, List.set_cons_succ]
              refine wpAnyH_take (i := 7) (oi := ⟨some 116, _, _, _, _, _⟩) (v := ?_) rfl (by kernel_rfl) (by kernel_rfl) (by kernel_rfl) (fun _ _ _ h => h) (Or.inl ⟨by kernel_rfl, ?y51⟩) (by assumption) ?_
              case y51 => (intro w hSw; (try dsimp only at hSw); first | (go_simp; done) | (go_simp; with_reducible rfl))
              simp only [Act.put, List.setIfInBounds_toArray, List.set_cons_zero, List.set_cons_succ]
              refine wpAnyH_take (i := 8) (oi := ⟨some 117, _, _, _, _, _⟩) (v := ?_) rfl (by kernel_rfl) (by kernel_rfl) (by kernel_rfl) (fun _ _ _ h => h) (Or.inl ⟨by kernel_rfl, ?y52⟩) (by assumption) ?_
              case y52 => (intro w hSw; (try dsimp only at hSw); first | (go_simp; done) | (go_simp; with_reducible rfl))
              simp only [Act.put, List.setIfInBounds_toArray, List.set_cons_zero, List.set_cons_succ]
              refine wpAnyH_ready (rs := [9]) (by kernel_rfl) (by simp) ?_
              refine AllReadyH.cons (o := ⟨some 16, _, _, _, _, _⟩) rfl (fun K hK => ?_) AllReadyH.nil
              go_simp
              refine hK.out _ _ (by first | exact ⟨((Qa19_3.out.alloc (.cells #[.slice none 0 0, .slice none 0 0] 41))).get 0 rfl, ((Qa19_3.out.alloc (.cells #[.slice none 0 0, .slice none 0 0] 41))).get 1 rfl, ((Qb19_3.out.alloc (.cells #[.slice none 0 0, .slice none 0 0] 41))).get 0 rfl, ((Qb19_3.out.alloc (.cells #[.slice none 0 0, .slice none 0 0] 41))).get 1 rfl, ((Qb19_3.out.alloc (.cells #[.slice none 0 0, .slice none 0 0] 41))).get 2 rfl, ((Qb19_3.out.alloc (.cells #[.slice none 0 0, .slice none 0 0] 41))).get 3 rfl, ((Qb19_3.out.alloc (.cells #[.slice none 0 0, .slice none 0 0] 41))).get 4 rfl, ((Qb19_3.out.alloc (.cells #[.slice none 0 0, .slice none 0 0] 41))).get 5 rfl, ((Qb19_3.out.alloc (.cells #[.slice none 0 0, .slice none 0 0] 41))).get 6 rfl⟩) (fun hHeld => ?_)
              clear hK K
              try simp only [Act.put, List.setIfInBounds_toArray, List.set_cons_zero, List.set_cons_succ]
              refine wpAnyH_ready (rs := [10]) (by kernel_rfl) (by simp) ?_
              refine AllReadyH.cons (o := ⟨none, _, _, _, _, _⟩) rfl (fun K hK => ?_) AllReadyH.nil
              go_simp
              refine hK.out _ _ (by first | exact ⟨(Qa19_3.out.alloc _).get 0 rfl, (Qa19_3.out.alloc _).get 1 rfl, (Qb19_3.out.alloc _).get 0 rfl, (Qb19_3.out.alloc _).get 1 rfl, (Qb19_3.out.alloc _).get 2 rfl, (Qb19_3.out.alloc _).get 3 rfl, (Qb19_3.out.alloc _).get 4 rfl, (Qb19_3.out.alloc _).get 5 rfl, (Qb19_3.out.alloc _).get 6 rfl⟩) (fun hHeld => ?_)
              clear hK K
              try simp only [Act.put, List.setIfInBounds_toArray, List.set_cons_zero, List.set_cons_succ]
              refine wpAnyH_take (i := 11) (oi := ⟨some 17, _, _, _, _, _⟩) (v := ?_) rfl (by kernel_rfl) (by kernel_rfl) (by kernel_rfl) (fun _ _ _ h => h) (Or.inl ⟨by kernel_rfl, ?y53⟩) (by assumption) ?_
              case y53 => (intro w hSw; (try dsimp only at hSw); first | (go_simp; done) | (go_simp; with_reducible rfl))
              simp only [Act.put, List.setIfInBounds_toArray, List.set_cons_zero, List.set_cons_succ]
              refine wpAnyH_take (i := 12) (oi := ⟨some 18, _, _, _, _, _⟩) (v := ?_) rfl (by kernel_rfl) (by kernel_rfl) (by kernel_rfl) (fun _ _ _ h => h) (Or.inl ⟨by kernel_rfl, ?y54⟩) (by assumption) ?_
              case y54 => (intro w hSw; (try dsimp only at hSw); first | (go_simp; done) | (go_simp; with_reducible rfl))
              simp only [Act.put, List.setIfInBounds_toArray, List.set_cons_zero, List.set_cons_succ]
              have FN := added_last (w0 := w19) ((Bo19_2.out).size) h119_3 h219_3 h319_3 o119_3 o319_3 os19_3 (Bo19_3.out)
              refine wpAnyH_done (by kernel_rfl) ?_ _
              go_wp2_with fail
              go_meet
              exact FN
            refine AllReadyH.cons (o := ⟨some 16, _, _, _, _, _⟩) rfl (fun K hK => ?_) ?_
            · skip
              go_simp
              refine hK.out _ _ (by first | exact ⟨((Qa19_2.out.alloc (.cells #[.slice none 0 0, .slice none 0 0] 41))).get 0 rfl, ((Qa19_2.out.alloc (.cells #[.slice none 0 0, .slice none 0 0] 41))).get 1 rfl, ((Qb19_2.out.alloc (.cells #[.slice none 0 0, .slice none 0 0] 41))).get 0 rfl, ((Qb19_2.out.alloc (.cells #[.slice none 0 0, .slice none 0 0] 41))).get 1 rfl, ((Qb19_2.out.alloc (.cells #[.slice none 0 0, .slice none 0 0] 41))).get 2 rfl, ((Qb19_2.out.alloc (.cells #[.slice none 0 0, .slice none 0 0] 41))).get 3 rfl, ((Qb19_2.out.alloc (.cells #[.slice none 0 0, .slice none 0 0] 41))).get 4 rfl, ((Qb19_2.out.alloc (.cells #[.slice none 0 0, .slice none 0 0] 41))).get 5 rfl, ((Qb19_2.out.alloc (.cells #[.slice none 0 0, .slice none 0 0] 41))).get 6 rfl⟩) (fun hHeld => ?_)
              clear hK K
              try simp only [Act.put, List.setIfInBounds_toArray, List.set_cons_zero, List.set_cons_succ]
              refine wpAnyH_ready (rs := [4]) (by kernel_rfl) (by simp) ?_
              refine AllReadyH.cons (o := ⟨some 114, _, _, _, _, _⟩) rfl (fun K hK => ?_) AllReadyH.nil
              (go_simp; go_at_call 20; (with_reducible refine (iasm_add _ _ _ zs _ _ _ ps g0 g1 g2 g3 g4 g5 g6 HR.out _ ((Oi19_2.out.alloc (.cells #[.slice none 0 0, .slice none 0 0] 41))).sl ((Op19_2.out.alloc (.cells #[.slice none 0 0, .slice none 0 0] 41))).sl HN.out HM.out hn7 k19_1.1 k19_1.2 HT.out hg).mono ?_); rintro e x19_4 ⟨A19_4, n19_4, c19_4, B19_4, m19_4, d19_4, C19_4, q19_4, e19_4, rfl, h119_4, h219_4, h319_4, o119_4, o319_4, os19_4, b19_4⟩; have Bw19_4 := Lib.hid (bstep (((Bw19_2.out).alloc (Bw19_2.out).size (.cells #[.slice none 0 0, .slice none 0 0] 41))) b19_4 (((Bw19_2.out).alloc (Bw19_2.out).size (.cells #[.slice none 0 0, .slice none 0 0] 41))).size); have Bo19_4 := Lib.hid (bstep (((Bo19_2.out).alloc (Bo19_2.out).size (.cells #[.slice none 0 0, .slice none 0 0] 41))) b19_4 (((Bo19_2.out).alloc (Bo19_2.out).size (.cells #[.slice none 0 0, .slice none 0 0] 41))).size); have z19_4 : w19.heap.size ≤ x19_4.heap.size := Bo19_4.out.size; have Qa19_4 := Lib.hid (((Qa19_2.out.alloc (.cells #[.slice none 0 0, .slice none 0 0] 41))).below b19_4 ((Qa19_2.out.alloc (.cells #[.slice none 0 0, .slice none 0 0] 41))).lt); have Qb19_4 := Lib.hid (((Qb19_2.out.alloc (.cells #[.slice none 0 0, .slice none 0 0] 41))).below b19_4 ((Qb19_2.out.alloc (.cells #[.slice none 0 0, .slice none 0 0] 41))).lt); have Oi19_4 := Lib.hid (((Oi19_2.out.alloc (.cells #[.slice none 0 0, .slice none 0 0] 41))).below b19_4 (Nat.le_refl _)); have Op19_4 := Lib.hid (((Op19_2.out.alloc (.cells #[.slice none 0 0, .slice none 0 0] 41))).below b19_4 (Nat.le_refl _)); have N19_4 := Lib.hid (((Blk.new x19_2 #[.slice none 0 0, .slice none 0 0] 41)).below b19_4 ((Blk.new x19_2 #[.slice none 0 0, .slice none 0 0] 41)).lt); have nf0 := N19_4.out.frozen 0; have nf1 := N19_4.out.frozen 1; have nl := N19_4.out.lt; have nn0 := N19_4.out.get 0 rfl; have nn1 := N19_4.out.get 1 rfl; first | go_wp2_with fail | skip)
              refine hK.out _ _ (by first | exact ⟨(Qa19_4.out).get 0 rfl, (Qa19_4.out).get 1 rfl, (Qb19_4.out).get 0 rfl, (Qb19_4.out).get 1 rfl, (Qb19_4.out).get 2 rfl, (Qb19_4.out).get 3 rfl, (Qb19_4.out).get 4 rfl, (Qb19_4.out).get 5 rfl, (Qb19_4.out).get 6 rfl⟩) (fun hHeld => ?_)
              clear hK K
              try simp only [Act.put, List.setIfInBounds_toArray, List.set_cons_zero, List.set_cons_succ]
              refine wpAnyH_take (i := 5) (oi := ⟨some 109, _, _, _, _, _⟩) (v := ?_) rfl (by kernel_rfl) (by kernel_rfl) (by kernel_rfl) (fun _ _ _ h => h) (Or.inl ⟨by kernel_rfl, ?y55⟩) (by assumption) ?_
              case y55 => (intro w hSw; (try dsimp only at hSw); first | (go_simp; done) | (go_simp; with_reducible rfl))
              simp only [Act.put, List.setIfInBounds_toArray, List.set_cons_zero, List.set_cons_succ]
              refine wpAnyH_take (i := 6) (oi := ⟨some 115, _, _, _, _, _⟩) (v := ?_) rfl (by kernel_rfl) (by kernel_rfl) (by kernel_rfl) (fun _ _ _ h => h) (Or.inl ⟨by kernel_rfl, ?y56⟩) (by assumption) ?_
              case y56 => (intro w hSw; (try dsimp only at hSw); first | (go_simp; done) | (go_simp; with_reducible rfl))
              simp only [Act.put, List.setIfInBounds_toArray, List.set_cons_zero, List.set_cons_succ]
              refine wpAnyH_take (i := 7) (oi := ⟨some 116, _, _, _, _, _⟩) (v := ?_) rfl (by kernel_rfl) (by kernel_rfl) (by kernel_rfl) (fun _ _ _ h => h) (Or.inl ⟨by kernel_rfl, ?y57⟩) (by assumption) ?_
              case y57 => (intro w hSw; (try dsimp only at hSw); first | (go_simp; done) | (go_simp; with_reducible rfl))
              simp only [Act.put, List.setIfInBounds_toArray, List.set_cons_zero, List.set_cons_succ]
              refine wpAnyH_take (i := 8) (oi := ⟨some 117, _, _, _, _, _⟩) (v := ?_) rfl (by kernel_rfl) (by kernel_rfl) (by kernel_rfl) (fun _ _ _ h => h) (Or.inl ⟨by kernel_rfl, ?y58⟩) (by assumption) ?_
              case y58 => (intro w hSw; (try dsimp only at hSw); first | (go_simp; done) | (go_simp; with_reducible rfl))
              simp only [Act.put, List.setIfInBounds_toArray, List.set_cons_zero, List.set_cons_succ]
              refine wpAnyH_ready (rs := [10]) (by kernel_rfl) (by simp) ?_
              refine AllReadyH.cons (o := ⟨none, _, _, _, _, _⟩) rfl (fun K hK => ?_) AllReadyH.nil
              go_simp
              refine hK.out _ _ (by first | exact ⟨((Qa19_4.out.far (p := ⟨x19_2.heap.size, 0, none⟩) (by show w.heap.size ≠ x19_2.heap.size; omega) (.slice A19_4 n19_4 c19_4)).far (p := ⟨x19_2.heap.size, 1, none⟩) (by show w.heap.size ≠ x19_2.heap.size; omega) (.slice B19_4 m19_4 d19_4)).get 0 rfl, ((Qa19_4.out.far (p := ⟨x19_2.heap.size, 0, none⟩) (by show w.heap.size ≠ x19_2.heap.size; omega) (.slice A19_4 n19_4 c19_4)).far (p := ⟨x19_2.heap.size, 1, none⟩) (by show w.heap.size ≠ x19_2.heap.size; omega) (.slice B19_4 m19_4 d19_4)).get 1 rfl, ((Qb19_4.out.far (p := ⟨x19_2.heap.size, 0, none⟩) (by show w.heap.size + 1 ≠ x19_2.heap.size; omega) (.slice A19_4 n19_4 c19_4)).far (p := ⟨x19_2.heap.size, 1, none⟩) (by show w.heap.size + 1 ≠ x19_2.heap.size; omega) (.slice B19_4 m19_4 d19_4)).get 0 rfl, ((Qb19_4.out.far (p := ⟨x19_2.heap.size, 0, none⟩) (by show w.heap.size + 1 ≠ x19_2.heap.size; omega) (.slice A19_4 n19_4 c19_4)).far (p := ⟨x19_2.heap.size, 1, none⟩) (by show w.heap.size + 1 ≠ x19_2.heap.size; omega) (.slice B19_4 m19_4 d19_4)).get 1 rfl, ((Qb19_4.out.far (p := ⟨x19_2.heap.size, 0, none⟩) (by show w.heap.size + 1 ≠ x19_2.heap.size; omega) (.slice A19_4 n19_4 c19_4)).far (p := ⟨x19_2.heap.size, 1, none⟩) (by show w.heap.size + 1 ≠ x19_2.heap.size; omega) (.slice B19_4 m19_4 d19_4)).get 2 rfl, ((Qb19_4.out.far (p := ⟨x19_2.heap.size, 0, none⟩) (by show w.heap.size + 1 ≠ x19_2.heap.size; omega) (.slice A19_4 n19_4 c19_4)).far (p := ⟨x19_2.heap.size, 1, none⟩) (by show w.heap.size + 1 ≠ x19_2.heap.size; omega) (.slice B19_4 m19_4 d19_4)).get 3 rfl, ((Qb19_4.out.far (p := ⟨x19_2.heap.size, 0, none⟩) (by show w.heap.size + 1 ≠ x19_2.heap.size; omega) (.slice A19_4 n19_4 c19_4)).far (p := ⟨x19_2.heap.size, 1, none⟩) (by show w.heap.size + 1 ≠ x19_2.heap.size; omega) (.slice B19_4 m19_4 d19_4)).get 4 rfl, ((Qb19_4.out.far (p := ⟨x19_2.heap.size, 0, none⟩) (by show w.heap.size + 1 ≠ x19_2.heap.size; omega) (.slice A19_4 n19_4 c19_4)).far (p := ⟨x19_2.heap.size, 1, none⟩) (by show w.heap.size + 1 ≠ x19_2.heap.size; omega) (.slice B19_4 m19_4 d19_4)).get 5 rfl, ((Qb19_4.out.far (p := ⟨x19_2.heap.size, 0, none⟩) (by show w.heap.size + 1 ≠ x19_2.heap.size; omega) (.slice A19_4 n19_4 c19_4)).far (p := ⟨x19_2.heap.size, 1, none⟩) (by show w.heap.size + 1 ≠ x19_2.heap.size; omega) (.slice B19_4 m19_4 d19_4)).get 6 rfl⟩) (fun hHeld => ?_)
              clear hK K
              try simp only [Act.put, List.setIfInBounds_toArray, List.set_cons_zero, List.set_cons_succ]
              refine wpAnyH_take (i := 11) (oi := ⟨some 17, _, _, _, _, _⟩) (v := ?_) rfl (by kernel_rfl) (by kernel_rfl) (by kernel_rfl) (fun _ _ _ h => h) (Or.inl ⟨by kernel_rfl, ?y59⟩) (by assumption) ?_
              case y59 => (intro w hSw; (try dsimp only at hSw); first | (go_simp; done) | (go_simp; with_reducible rfl))
              simp only [Act.put, List.setIfInBounds_toArray, List.set_cons_zero, List.set_cons_succ]
              refine wpAnyH_take (i := 12) (oi := ⟨some 18, _, _, _, _, _⟩) (v := ?_) rfl (by kernel_rfl) (by kernel_rfl) (by kernel_rfl) (fun _ _ _ h => h) (Or.inl ⟨by kernel_rfl, ?y60⟩) (by assumption) ?_
              case y60 => (intro w hSw; (try dsimp only at hSw); first | (go_simp; done) | (go_simp; with_reducible rfl))
              simp only [Act.put, List.setIfInBounds_toArray, List.set_cons_zero, List.set_cons_succ]
              have FN := added_first (w0 := w19) ((((Bo19_2.out).alloc (Bo19_2.out).size (.cells #[.slice none 0 0, .slice none 0 0] 41))).size) h119_4 h219_4 h319_4 o119_4 o319_4 os19_4 (Bo19_4.out) (N19_4.out) ((Bo19_2.out).size)
              refine wpAnyH_done (by kernel_rfl) ?_ _
              go_wp2_with fail
              go_meet
              exact FN
            exact AllReadyH.nil
          refine AllReadyH.cons (o := ⟨some 16, _, _, _, _, _⟩) rfl (fun K hK => ?_) ?_
          · skip
            go_simp
            refine hK.out _ _ (by first | exact ⟨((Qa19_1.out.alloc (.cells #[.slice none 0 0, .slice none 0 0] 41))).get 0 rfl, ((Qa19_1.out.alloc (.cells #[.slice none 0 0, .slice none 0 0] 41))).get 1 rfl, ((Qb19_1.out.alloc (.cells #[.slice none 0 0, .slice none 0 0] 41))).get 0 rfl, ((Qb19_1.out.alloc (.cells #[.slice none 0 0, .slice none 0 0] 41))).get 1 rfl, ((Qb19_1.out.alloc (.cells #[.slice none 0 0, .slice none 0 0] 41))).get 2 rfl, ((Qb19_1.out.alloc (.cells #[.slice none 0 0, .slice none 0 0] 41))).get 3 rfl, ((Qb19_1.out.alloc (.cells #[.slice none 0 0, .slice none 0 0] 41))).get 4 rfl, ((Qb19_1.out.alloc (.cells #[.slice none 0 0, .slice none 0 0] 41))).get 5 rfl, ((Qb19_1.out.alloc (.cells #[.slice none 0 0, .slice none 0 0] 41))).get 6 rfl⟩) (fun hHeld => ?_)
            clear hK K
            try simp only [Act.put, List.setIfInBounds_toArray, List.set_cons_zero, List.set_cons_succ]
            refine wpAnyH_ready (rs := [3]) (by kernel_rfl) (by simp) ?_
            refine AllReadyH.cons (o := ⟨some 113, _, _, _, _, _⟩) rfl (fun K hK => ?_) AllReadyH.nil
            (go_simp; go_at_call 19; (with_reducible refine (to_data g0 g1 g2 g3 g4 g5 g6 _).mono ?_); rintro e x19_5 ⟨rfl, b19_5⟩; have Bw19_5 := Lib.hid (bstep (((Bw19_1.out).alloc (Bw19_1.out).size (.cells #[.slice none 0 0, .slice none 0 0] 41))) b19_5 (((Bw19_1.out).alloc (Bw19_1.out).size (.cells #[.slice none 0 0, .slice none 0 0] 41))).size); have Bo19_5 := Lib.hid (bstep (((Bo19_1.out).alloc (Bo19_1.out).size (.cells #[.slice none 0 0, .slice none 0 0] 41))) b19_5 (((Bo19_1.out).alloc (Bo19_1.out).size (.cells #[.slice none 0 0, .slice none 0 0] 41))).size); have z19_5 : w19.heap.size ≤ x19_5.heap.size := Bo19_5.out.size; have Qa19_5 := Lib.hid (((Qa19_1.out.alloc (.cells #[.slice none 0 0, .slice none 0 0] 41))).below b19_5 ((Qa19_1.out.alloc (.cells #[.slice none 0 0, .slice none 0 0] 41))).lt); have Qb19_5 := Lib.hid (((Qb19_1.out.alloc (.cells #[.slice none 0 0, .slice none 0 0] 41))).below b19_5 ((Qb19_1.out.alloc (.cells #[.slice none 0 0, .slice none 0 0] 41))).lt); have Oi19_5 := Lib.hid (((Oi19_1.out.alloc (.cells #[.slice none 0 0, .slice none 0 0] 41))).below b19_5 (Nat.le_refl _)); have Op19_5 := Lib.hid (((Op19_1.out.alloc (.cells #[.slice none 0 0, .slice none 0 0] 41))).below b19_5 (Nat.le_refl _)); have N19_5 := Lib.hid (((Blk.new x19_1 #[.slice none 0 0, .slice none 0 0] 41)).below b19_5 ((Blk.new x19_1 #[.slice none 0 0, .slice none 0 0] 41)).lt); first | go_wp2_with fail | skip)
            refine hK.out _ _ (by first | exact ⟨(Qa19_5.out).get 0 rfl, (Qa19_5.out).get 1 rfl, (Qb19_5.out).get 0 rfl, (Qb19_5.out).get 1 rfl, (Qb19_5.out).get 2 rfl, (Qb19_5.out).get 3 rfl, (Qb19_5.out).get 4 rfl, (Qb19_5.out).get 5 rfl, (Qb19_5.out).get 6 rfl⟩) (fun hHeld => ?_)
            clear hK K
            try simp only [Act.put, List.setIfInBounds_toArray, List.set_cons_zero, List.set_cons_succ]
            refine wpAnyH_ready (rs := [4]) (by kernel_rfl) (by simp) ?_
            refine AllReadyH.cons (o := ⟨some 114, _, _, _, _, _⟩) rfl (fun K hK => ?_) AllReadyH.nil
            (go_simp; go_at_call 20; (with_reducible refine (iasm_add _ _ _ zs _ _ _ ps g0 g1 g2 g3 g4 g5 g6 HR.out _ (Oi19_5.out).sl (Op19_5.out).sl HN.out HM.out hn7 k19_1.1 k19_1.2 HT.out hg).mono ?_); rintro e x19_6 ⟨A19_6, n19_6, c19_6, B19_6, m19_6, d19_6, C19_6, q19_6, e19_6, rfl, h119_6, h219_6, h319_6, o119_6, o319_6, os19_6, b19_6⟩; have Bw19_6 := Lib.hid (bstep (Bw19_5.out) b19_6 (Bw19_5.out).size); have Bo19_6 := Lib.hid (bstep (Bo19_5.out) b19_6 (Bo19_5.out).size); have z19_6 : w19.heap.size ≤ x19_6.heap.size := Bo19_6.out.size; have Qa19_6 := Lib.hid ((Qa19_5.out).below b19_6 (Qa19_5.out).lt); have Qb19_6 := Lib.hid ((Qb19_5.out).below b19_6 (Qb19_5.out).lt); have Oi19_6 := Lib.hid ((Oi19_5.out).below b19_6 (Nat.le_refl _)); have Op19_6 := Lib.hid ((Op19_5.out).below b19_6 (Nat.le_refl _)); have N19_6 := Lib.hid ((N19_5.out).below b19_6 (N19_5.out).lt); have nf0 := N19_6.out.frozen 0; have nf1 := N19_6.out.frozen 1; have nl := N19_6.out.lt; have nn0 := N19_6.out.get 0 rfl; have nn1 := N19_6.out.get 1 rfl; first | go_wp2_with fail | skip)
            refine hK.out _ _ (by first | exact ⟨(Qa19_6.out).get 0 rfl, (Qa19_6.out).get 1 rfl, (Qb19_6.out).get 0 rfl, (Qb19_6.out).get 1 rfl, (Qb19_6.out).get 2 rfl, (Qb19_6.out).get 3 rfl, (Qb19_6.out).get 4 rfl, (Qb19_6.out).get 5 rfl, (Qb19_6.out).get 6 rfl⟩) (fun hHeld => ?_)
            clear hK K
            try simp only [Act.put, List.setIfInBounds_toArray, List.set_cons_zero, List.set_cons_succ]
            refine wpAnyH_take (i := 5) (oi := ⟨some 109, _, _, _, _, _⟩) (v := ?_) rfl (by kernel_rfl) (by kernel_rfl) (by kernel_rfl) (fun _ _ _ h => h) (Or.inl ⟨by kernel_rfl, ?y61⟩) (by assumption) ?_
            case y61 => (intro w hSw; (try dsimp only at hSw); first | (go_simp; done) | (go_simp; with_reducible rfl))
            simp only [Act.put, List.setIfInBounds_toArray, List.set_cons_zero, List.set_cons_succ]
            refine wpAnyH_take (i := 6) (oi := ⟨some 115, _, _, _, _, _⟩) (v := ?_) rfl (by kernel_rfl) (by kernel_rfl) (by kernel_rfl) (fun _ _ _ h => h) (Or.inl ⟨by kernel_rfl, ?y62⟩) (by assumption) ?_
            case y62 => (intro w hSw; (try dsimp only at hSw); first | (go_simp; done) | (go_simp; with_reducible rfl))
            simp only [Act.put, List.setIfInBounds_toArray, List.set_cons_zero, List.set_cons_succ]
            refine wpAnyH_take (i := 7) (oi := ⟨some 116, _, _, _, _, _⟩) (v := ?_) rfl (by kernel_rfl) (by kernel_rfl) (by kernel_rfl) (fun _ _ _ h => h) (Or.inl ⟨by kernel_rfl, ?y63⟩) (by assumption) ?_
            case y63 => (intro w hSw; (try dsimp only at hSw); first | (go_simp; done) | (go_simp; with_reducible rfl))
            simp only [Act.put, List.setIfInBounds_toArray, List.set_cons_zero, List.set_cons_succ]
            refine wpAnyH_take (i := 8) (oi := ⟨some 117, _, _, _, _, _⟩) (v := ?_) rfl (by kernel_rfl) (by kernel_rfl) (by kernel_rfl) (fun _ _ _ h => h) (Or.inl ⟨by kernel_rfl, ?y64⟩) (by assumption) ?_
            case y64 => (intro w hSw; (try dsimp only at hSw); first | (go_simp; done) | (go_simp; with_reducible rfl))
            simp only [Act.put, List.setIfInBounds_toArray, List.set_cons_zero, List.set_cons_succ]
            refine wpAnyH_ready (rs := [10]) (by kernel_rfl) (by simp) ?_
            refine AllReadyH.cons (o := ⟨none, _, _, _, _, _⟩) rfl (fun K hK => ?_) AllReadyH.nil
            go_simp
            refine hK.out _ _ (by first | exact ⟨((Qa19_6.out.far (p := ⟨x19_1.heap.size, 0, none⟩) (by show w.heap.size ≠ x19_1.heap.size; omega) (.slice A19_6 n19_6 c19_6)).far (p := ⟨x19_1.heap.size, 1, none⟩) (by show w.heap.size ≠ x19_1.heap.size; omega) (.slice B19_6 m19_6 d19_6)).get 0 rfl, ((Qa19_6.out.far (p := ⟨x19_1.heap.size, 0, none⟩) (by show w.heap.size ≠ x19_1.heap.size; omega) (.slice A19_6 n19_6 c19_6)).far (p := ⟨x19_1.heap.size, 1, none⟩) (by show w.heap.size ≠ x19_1.heap.size; omega) (.slice B19_6 m19_6 d19_6)).get 1 rfl, ((Qb19_6.out.far (p := ⟨x19_1.heap.size, 0, none⟩) (by show w.heap.size + 1 ≠ x19_1.heap.size; omega) (.slice A19_6 n19_6 c19_6)).far (p := ⟨x19_1.heap.size, 1, none⟩) (by show w.heap.size + 1 ≠ x19_1.heap.size; omega) (.slice B19_6 m19_6 d19_6)).get 0 rfl, ((Qb19_6.out.far (p := ⟨x19_1.heap.size, 0, none⟩) (by show w.heap.size + 1 ≠ x19_1.heap.size; omega) (.slice A19_6 n19_6 c19_6)).far (p := ⟨x19_1.heap.size, 1, none⟩) (by show w.heap.size + 1 ≠ x19_1.heap.size; omega) (.slice B19_6 m19_6 d19_6)).get 1 rfl, ((Qb19_6.out.far (p := ⟨x19_1.heap.size, 0, none⟩) (by show w.heap.size + 1 ≠ x19_1.heap.size; omega) (.slice A19_6 n19_6 c19_6)).far (p := ⟨x19_1.heap.size, 1, none⟩) (by show w.heap.size + 1 ≠ x19_1.heap.size; omega) (.slice B19_6 m19_6 d19_6)).get 2 rfl, ((Qb19_6.out.far (p := ⟨x19_1.heap.size, 0, none⟩) (by show w.heap.size + 1 ≠ x19_1.heap.size; omega) (.slice A19_6 n19_6 c19_6)).far (p := ⟨x19_1.heap.size, 1, none⟩) (by show w.heap.size + 1 ≠ x19_1.heap.size; omega) (.slice B19_6 m19_6 d19_6)).get 3 rfl, ((Qb19_6.out.far (p := ⟨x19_1.heap.size, 0, none⟩) (by show w.heap.size + 1 ≠ x19_1.heap.size; omega) (.slice A19_6 n19_6 c19_6)).far (p := ⟨x19_1.heap.size, 1, none⟩) (by show w.heap.size + 1 ≠ x19_1.heap.size; omega) (.slice B19_6 m19_6 d19_6)).get 4 rfl, ((Qb19_6.out.far (p := ⟨x19_1.heap.size, 0, none⟩) (by show w.heap.size + 1 ≠ x19_1.heap.size; omega) (.slice A19_6 n19_6 c19_6)).far (p := ⟨x19_1.heap.size, 1, none⟩) (by show w.heap.size + 1 ≠ x19_1.heap.size; omega) (.slice B19_6 m19_6 d19_6)).get 5 rfl, ((Qb19_6.out.far (p := ⟨x19_1.heap.size, 0, none⟩) (by show w.heap.size + 1 ≠ x19_1.heap.size; omega) (.slice A19_6 n19_6 c19_6)).far (p := ⟨x19_1.heap.size, 1, none⟩) (by show w.heap.size + 1 ≠ x19_1.heap.size; omega) (.slice B19_6 m19_6 d19_6)).get 6 rfl⟩) (fun hHeld => ?_)
            clear hK K
            try simp only [Act.put, List.setIfInBounds_toArray, List.set_cons_zero, List.set_cons_succ]
            refine wpAnyH_take (i := 11) (oi := ⟨some 17, _, _, _, _, _⟩) (v := ?_) rfl (by kernel_rfl) (by kernel_rfl) (by kernel_rfl) (fun _ _ _ h => h) (Or.inl ⟨by kernel_rfl, ?y65⟩) (by assumption) ?_
            case y65 => (intro w hSw; (try dsimp only at hSw); first | (go_simp; done) | (go_simp; with_reducible rfl))
            simp only [Act.put, List.setIfInBounds_toArray, List.set_cons_zero, List.set_cons_succ]
            refine wpAnyH_take (i := 12) (oi := ⟨some 18, _, _, _, _, _⟩) (v := ?_) rfl (by kernel_rfl) (by kernel_rfl) (by kernel_rfl) (fun _ _ _ h => h) (Or.inl ⟨by kernel_rfl, ?y66⟩) (by assumption) ?_
            case y66 => (intro w hSw; (try dsimp only at hSw); first | (go_simp; done) | (go_simp; with_reducible rfl))
            simp only [Act.put, List.setIfInBounds_toArray, List.set_cons_zero, List.set_cons_succ]
            have FN := added_first (w0 := w19) ((Bo19_5.out).size) h119_6 h219_6 h319_6 o119_6 o319_6 os19_6 (Bo19_6.out) (N19_6.out) ((Bo19_1.out).size)
            refine wpAnyH_done (by kernel_rfl) ?_ _
            go_wp2_with fail
            go_meet
            exact FN
          exact AllReadyH.nil
        refine AllReadyH.cons (o := ⟨some 16, _, _, _, _, _⟩) rfl (fun K hK => ?_) ?_
        · skip
          go_simp
          refine hK.out _ _ (by first | exact ⟨((Qa_19.out.alloc (.cells #[.slice none 0 0, .slice none 0 0] 41)).drew).get 0 rfl, ((Qa_19.out.alloc (.cells #[.slice none 0 0, .slice none 0 0] 41)).drew).get 1 rfl, ((Qb_19.out.alloc (.cells #[.slice none 0 0, .slice none 0 0] 41)).drew).get 0 rfl, ((Qb_19.out.alloc (.cells #[.slice none 0 0, .slice none 0 0] 41)).drew).get 1 rfl, ((Qb_19.out.alloc (.cells #[.slice none 0 0, .slice none 0 0] 41)).drew).get 2 rfl, ((Qb_19.out.alloc (.cells #[.slice none 0 0, .slice none 0 0] 41)).drew).get 3 rfl, ((Qb_19.out.alloc (.cells #[.slice none 0 0, .slice none 0 0] 41)).drew).get 4 rfl, ((Qb_19.out.alloc (.cells #[.slice none 0 0, .slice none 0 0] 41)).drew).get 5 rfl, ((Qb_19.out.alloc (.cells #[.slice none 0 0, .slice none 0 0] 41)).drew).get 6 rfl⟩) (fun hHeld => ?_)
          clear hK K
          try simp only [Act.put, List.setIfInBounds_toArray, List.set_cons_zero, List.set_cons_succ]
          refine wpAnyH_ready (rs := [1]) (by kernel_rfl) (by simp) ?_
          refine AllReadyH.cons (o := ⟨some 111, _, _, _, _, _⟩) rfl (fun K hK => ?_) AllReadyH.nil
          (go_simp; go_at_call 18; (with_reducible refine (to_asm _ _ _ zs _ _ _ ps _ ((HS.out.below ((B19.out.alloc (B19.out).size (.cells #[.slice none 0 0, .slice none 0 0] 41)).drew) (Nat.le_refl _)).more ((B19.out.alloc (B19.out).size (.cells #[.slice none 0 0, .slice none 0 0] 41)).drew).size) ((HP.out.below ((B19.out.alloc (B19.out).size (.cells #[.slice none 0 0, .slice none 0 0] 41)).drew) (Nat.le_refl _)).more ((B19.out.alloc (B19.out).size (.cells #[.slice none 0 0, .slice none 0 0] 41)).drew).size) HN.out HM.out hn6 hm6).mono ?_); rintro e x19_7 ⟨A19_7, c19_7, B19_7, d19_7, rfl, o19_7, p19_7, b19_7⟩; have Bw19_7 := Lib.hid (bstep ((B19.out.alloc (B19.out).size (.cells #[.slice none 0 0, .slice none 0 0] 41)).drew) b19_7 ((B19.out.alloc (B19.out).size (.cells #[.slice none 0 0, .slice none 0 0] 41)).drew).size); have Bo19_7 := Lib.hid (bstep (((Below.refl w19.heap.size w19).alloc (Nat.le_refl _) (.cells #[.slice none 0 0, .slice none 0 0] 41)).drew) b19_7 (((Below.refl w19.heap.size w19).alloc (Nat.le_refl _) (.cells #[.slice none 0 0, .slice none 0 0] 41)).drew).size); have z19_7 : w19.heap.size ≤ x19_7.heap.size := Bo19_7.out.size; have Qa19_7 := Lib.hid (((Qa_19.out.alloc (.cells #[.slice none 0 0, .slice none 0 0] 41)).drew).below b19_7 ((Qa_19.out.alloc (.cells #[.slice none 0 0, .slice none 0 0] 41)).drew).lt); have Qb19_7 := Lib.hid (((Qb_19.out.alloc (.cells #[.slice none 0 0, .slice none 0 0] 41)).drew).below b19_7 ((Qb_19.out.alloc (.cells #[.slice none 0 0, .slice none 0 0] 41)).drew).lt); have Oi19_7 := Lib.hid o19_7; have Op19_7 := Lib.hid p19_7; have k19_7 := capsOf p19_7; have N19_7 := Lib.hid (((Blk.new w19 #[.slice none 0 0, .slice none 0 0] 41).drew).below b19_7 ((Blk.new w19 #[.slice none 0 0, .slice none 0 0] 41).drew).lt); clear o19_7 p19_7; first | go_wp2_with fail | skip)
          refine hK.out _ _ (by first | exact ⟨(Qa19_7.out).get 0 rfl, (Qa19_7.out).get 1 rfl, (Qb19_7.out).get 0 rfl, (Qb19_7.out).get 1 rfl, (Qb19_7.out).get 2 rfl, (Qb19_7.out).get 3 rfl, (Qb19_7.out).get 4 rfl, (Qb19_7.out).get 5 rfl, (Qb19_7.out).get 6 rfl⟩) (fun hHeld => ?_)
          clear hK K
          try simp only [Act.put, List.setIfInBounds_toArray, List.set_cons_zero, List.set_cons_succ]
          refine wpAnyH_ready (rs := [3]) (by kernel_rfl) (by simp) ?_
          refine AllReadyH.cons (o := ⟨some 113, _, _, _, _, _⟩) rfl (fun K hK => ?_) AllReadyH.nil
          (go_simp; go_at_call 19; (with_reducible refine (to_data g0 g1 g2 g3 g4 g5 g6 _).mono ?_); rintro e x19_8 ⟨rfl, b19_8⟩; have Bw19_8 := Lib.hid (bstep (Bw19_7.out) b19_8 (Bw19_7.out).size); have Bo19_8 := Lib.hid (bstep (Bo19_7.out) b19_8 (Bo19_7.out).size); have z19_8 : w19.heap.size ≤ x19_8.heap.size := Bo19_8.out.size; have Qa19_8 := Lib.hid ((Qa19_7.out).below b19_8 (Qa19_7.out).lt); have Qb19_8 := Lib.hid ((Qb19_7.out).below b19_8 (Qb19_7.out).lt); have Oi19_8 := Lib.hid ((Oi19_7.out).below b19_8 (Nat.le_refl _)); have Op19_8 := Lib.hid ((Op19_7.out).below b19_8 (Nat.le_refl _)); have N19_8 := Lib.hid ((N19_7.out).below b19_8 (N19_7.out).lt); first | go_wp2_with fail | skip)
          refine hK.out _ _ (by first | exact ⟨(Qa19_8.out).get 0 rfl, (Qa19_8.out).get 1 rfl, (Qb19_8.out).get 0 rfl, (Qb19_8.out).get 1 rfl, (Qb19_8.out).get 2 rfl, (Qb19_8.out).get 3 rfl, (Qb19_8.out).get 4 rfl, (Qb19_8.out).get 5 rfl, (Qb19_8.out).get 6 rfl⟩) (fun hHeld => ?_)
          clear hK K
          try simp only [Act.put, List.setIfInBounds_toArray, List.set_cons_zero, List.set_cons_succ]
          refine wpAnyH_ready (rs := [4]) (by kernel_rfl) (by simp) ?_
          refine AllReadyH.cons (o := ⟨some 114, _, _, _, _, _⟩) rfl (fun K hK => ?_) AllReadyH.nil
          (go_simp; go_at_call 20; (with_reducible refine (iasm_add _ _ _ zs _ _ _ ps g0 g1 g2 g3 g4 g5 g6 HR.out _ (Oi19_8.out).sl (Op19_8.out).sl HN.out HM.out hn7 k19_7.1 k19_7.2 HT.out hg).mono ?_); rintro e x19_9 ⟨A19_9, n19_9, c19_9, B19_9, m19_9, d19_9, C19_9, q19_9, e19_9, rfl, h119_9, h219_9, h319_9, o119_9, o319_9, os19_9, b19_9⟩; have Bw19_9 := Lib.hid (bstep (Bw19_8.out) b19_9 (Bw19_8.out).size); have Bo19_9 := Lib.hid (bstep (Bo19_8.out) b19_9 (Bo19_8.out).size); have z19_9 : w19.heap.size ≤ x19_9.heap.size := Bo19_9.out.size; have Qa19_9 := Lib.hid ((Qa19_8.out).below b19_9 (Qa19_8.out).lt); have Qb19_9 := Lib.hid ((Qb19_8.out).below b19_9 (Qb19_8.out).lt); have Oi19_9 := Lib.hid ((Oi19_8.out).below b19_9 (Nat.le_refl _)); have Op19_9 := Lib.hid ((Op19_8.out).below b19_9 (Nat.le_refl _)); have N19_9 := Lib.hid ((N19_8.out).below b19_9 (N19_8.out).lt); have nf0 := N19_9.out.frozen 0; have nf1 := N19_9.out.frozen 1; have nl := N19_9.out.lt; have nn0 := N19_9.out.get 0 rfl; have nn1 := N19_9.out.get 1 rfl; first | go_wp2_with fail | skip)
          refine hK.out _ _ (by first | exact ⟨(Qa19_9.out).get 0 rfl, (Qa19_9.out).get 1 rfl, (Qb19_9.out).get 0 rfl, (Qb19_9.out).get 1 rfl, (Qb19_9.out).get 2 rfl, (Qb19_9.out).get 3 rfl, (Qb19_9.out).get 4 rfl, (Qb19_9.out).get 5 rfl, (Qb19_9.out).get 6 rfl⟩) (fun hHeld => ?_)
          clear hK K
          try simp only [Act.put, List.setIfInBounds_toArray, List.set_cons_zero, List.set_cons_succ]
          refine wpAnyH_take (i := 5) (oi := ⟨some 109, _, _, _, _, _⟩) (v := ?_) rfl (by kernel_rfl) (by kernel_rfl) (by kernel_rfl) (fun _ _ _ h => h) (Or.inl ⟨by kernel_rfl, ?y67⟩) (by assumption) ?_
          case y67 => (intro w hSw; (try dsimp only at hSw); first | (go_simp; done) | (go_simp; with_reducible rfl))
          simp only [Act.put, List.setIfInBounds_toArray, List.set_cons_zero, List.set_cons_succ]
          refine wpAnyH_take (i := 6) (oi := ⟨some 115, _, _, _, _, _⟩) (v := ?_) rfl (by kernel_rfl) (by kernel_rfl) (by kernel_rfl) (fun _ _ _ h => h) (Or.inl ⟨by kernel_rfl, ?y68⟩) (by assumption) ?_
          case y68 => (intro w hSw; (try dsimp only at hSw); first | (go_simp; done) | (go_simp; with_reducible rfl))
          simp only [Act.put, List.setIfInBounds_toArray, List.set_cons_zero, List.set_cons_succ]
          refine wpAnyH_take (i := 7) (oi := ⟨some 116, _, _, _, _, _⟩) (v := ?_) rfl (by kernel_rfl) (by kernel_rfl) (by kernel_rfl) (fun _ _ _ h => h) (Or.inl ⟨by kernel_rfl, ?y69⟩) (by assumption) ?_
          case y69 => (intro w hSw; (try dsimp only at hSw); first | (go_simp; done) | (go_simp; with_reducible rfl))
          simp only [Act.put, List.setIfInBounds_toArray, List.set_cons_zero, List.set_cons_succ]
          refine wpAnyH_take (i := 8) (oi := ⟨some 117, _, _, _, _, _⟩) (v := ?_) rfl (by kernel_rfl) (by kernel_rfl) (by kernel_rfl) (fun _ _ _ h => h) (Or.inl ⟨by kernel_rfl, ?y70⟩) (by assumption) ?_
          case y70 => (intro w hSw; (try dsimp only at hSw); first | (go_simp; done) | (go_simp; with_reducible rfl))
          simp only [Act.put, List.setIfInBounds_toArray, List.set_cons_zero, List.set_cons_succ]
          refine wpAnyH_ready (rs := [10]) (by kernel_rfl) (by simp) ?_
          refine AllReadyH.cons (o := ⟨none, _, _, _, _, _⟩) rfl (fun K hK => ?_) AllReadyH.nil
          go_simp
          refine hK.out _ _ (by first | exact ⟨((Qa19_9.out.far (p := ⟨w19.heap.size, 0, none⟩) (by show w.heap.size ≠ w19.heap.size; omega) (.slice A19_9 n19_9 c19_9)).far (p := ⟨w19.heap.size, 1, none⟩) (by show w.heap.size ≠ w19.heap.size; omega) (.slice B19_9 m19_9 d19_9)).get 0 rfl, ((Qa19_9.out.far (p := ⟨w19.heap.size, 0, none⟩) (by show w.heap.size ≠ w19.heap.size; omega) (.slice A19_9 n19_9 c19_9)).far (p := ⟨w19.heap.size, 1, none⟩) (by show w.heap.size ≠ w19.heap.size; omega) (.slice B19_9 m19_9 d19_9)).get 1 rfl, ((Qb19_9.out.far (p := ⟨w19.heap.size, 0, none⟩) (by show w.heap.size + 1 ≠ w19.heap.size; omega) (.slice A19_9 n19_9 c19_9)).far (p := ⟨w19.heap.size, 1, none⟩) (by show w.heap.size + 1 ≠ w19.heap.size; omega) (.slice B19_9 m19_9 d19_9)).get 0 rfl, ((Qb19_9.out.far (p := ⟨w19.heap.size, 0, none⟩) (by show w.heap.size + 1 ≠ w19.heap.size; omega) (.slice A19_9 n19_9 c19_9)).far (p := ⟨w19.heap.size, 1, none⟩) (by show w.heap.size + 1 ≠ w19.heap.size; omega) (.slice B19_9 m19_9 d19_9)).get 1 rfl, ((Qb19_9.out.far (p := ⟨w19.heap.size, 0, none⟩) (by show w.heap.size + 1 ≠ w19.heap.size; omega) (.slice A19_9 n19_9 c19_9)).far (p := ⟨w19.heap.size, 1, none⟩) (by show w.heap.size + 1 ≠ w19.heap.size; omega) (.slice B19_9 m19_9 d19_9)).get 2 rfl, ((Qb19_9.out.far (p := ⟨w19.heap.size, 0, none⟩) (by show w.heap.size + 1 ≠ w19.heap.size; omega) (.slice A19_9 n19_9 c19_9)).far (p := ⟨w19.heap.size, 1, none⟩) (by show w.heap.size + 1 ≠ w19.heap.size; omega) (.slice B19_9 m19_9 d19_9)).get 3 rfl, ((Qb19_9.out.far (p := ⟨w19.heap.size, 0, none⟩) (by show w.heap.size + 1 ≠ w19.heap.size; omega) (.slice A19_9 n19_9 c19_9)).far (p := ⟨w19.heap.size, 1, none⟩) (by show w.heap.size + 1 ≠ w19.heap.size; omega) (.slice B19_9 m19_9 d19_9)).get 4 rfl, ((Qb19_9.out.far (p := ⟨w19.heap.size, 0, none⟩) (by show w.heap.size + 1 ≠ w19.heap.size; omega) (.slice A19_9 n19_9 c19_9)).far (p := ⟨w19.heap.size, 1, none⟩) (by show w.heap.size + 1 ≠ w19.heap.size; omega) (.slice B19_9 m19_9 d19_9)).get 5 rfl, ((Qb19_9.out.far (p := ⟨w19.heap.size, 0, none⟩) (by show w.heap.size + 1 ≠ w19.heap.size; omega) (.slice A19_9 n19_9 c19_9)).far (p := ⟨w19.heap.size, 1, none⟩) (by show w.heap.size + 1 ≠ w19.heap.size; omega) (.slice B19_9 m19_9 d19_9)).get 6 rfl⟩) (fun hHeld => ?_)
          clear hK K
          try simp only [Act.put, List.setIfInBounds_toArray, List.set_cons_zero, List.set_cons_succ]
          refine wpAnyH_take (i := 11) (oi := ⟨some 17, _, _, _, _, _⟩) (v := ?_) rfl (by kernel_rfl) (by kernel_rfl) (by kernel_rfl) (fun _ _ _ h => h) (Or.inl ⟨by kernel_rfl, ?y71⟩) (by assumption) ?_
          case y71 => (intro w hSw; (try dsimp only at hSw); first | (go_simp; done) | (go_simp; with_reducible rfl))
          simp only [Act.put, List.setIfInBounds_toArray, List.set_cons_zero, List.set_cons_succ]
          refine wpAnyH_take (i := 12) (oi := ⟨some 18, _, _, _, _, _⟩) (v := ?_) rfl (by kernel_rfl) (by kernel_rfl) (by kernel_rfl) (fun _ _ _ h => h) (Or.inl ⟨by kernel_rfl, ?y72⟩) (by assumption) ?_
          case y72 => (intro w hSw; (try dsimp only at hSw); first | (go_simp; done) | (go_simp; with_reducible rfl))
          simp only [Act.put, List.setIfInBounds_toArray, List.set_cons_zero, List.set_cons_succ]
          have FN := added_first (w0 := w19) ((Bo19_8.out).size) h119_9 h219_9 h319_9 o119_9 o319_9 os19_9 (Bo19_9.out) (N19_9.out) (Nat.le_refl _)
          refine wpAnyH_done (by kernel_rfl) ?_ _
          go_wp2_with fail
          go_meet
          exact FN
        exact AllReadyH.nil
      case rest =>
        obtain ⟨b620, A20, n20, c20, B20', m20, d20, C20, q20, e20, rfl, rfl, rfl, h1, h2, h3, qb, hb620, o1, o3, os, b20⟩ := hcut
        obtain rfl : nz = n20 := by rw [← h1, HNZ.out]
        obtain rfl : mp = m20 := by rw [← h2, HMP.out]
        obtain rfl : qs = q20 := by rw [← h3, HQS.out]
        obtain ⟨w20, rfl⟩ : ∃ wo : World, wo = wc := ⟨_, rfl⟩
        clear h1 h2 h3
        clear la ca0 ca1 lb cb0 cb1 cb2 cb3 cb4 cb5 cb6
        have Qa_20 := Lib.hid (Qa_19.out.below b20 Qa_19.out.lt)
        have Qb_20 := Lib.hid (Qb_19.out.below b20 Qb_19.out.lt)
        have Qw0_20 := Lib.hid (Qw0_19.out.below b20 Qw0_19.out.lt)
        have Owi_20 := Lib.hid (Owi_19.out.below b20 (Nat.le_refl _))
        have Owp_20 := Lib.hid (Owp_19.out.below b20 (Nat.le_refl _))
        have Owm_20 := Lib.hid (Owm_19.out.below b20 (Nat.le_refl _))
        have Oxi_20 := Lib.hid (Oxi_19.out.below b20 (Nat.le_refl _))
        have Oxp_20 := Lib.hid (Oxp_19.out.below b20 (Nat.le_refl _))
        have Qx_20 := Lib.hid (Qx_19.out.below b20 Qx_19.out.lt)
        have Qg0_20 := Lib.hid (Qg0_19.out.below b20 Qg0_19.out.lt)
        have Ogi_20 := Lib.hid (Ogi_19.out.below b20 (Nat.le_refl _))
        have Ogp_20 := Lib.hid (Ogp_19.out.below b20 (Nat.le_refl _))
        have Ogm_20 := Lib.hid (Ogm_19.out.below b20 (Nat.le_refl _))
        have Oti_20 := Lib.hid (Oti_19.out.below b20 (Nat.le_refl _))
        have Otp_20 := Lib.hid (Otp_19.out.below b20 (Nat.le_refl _))
        have s20 := b20.size
        have B20 := Lib.hid (bstep B19.out b20 B19.out.size)
        have le20 : w19.heap.size ≤ w20.heap.size := by simpa using s20
        clear s20
        have Qh0_20 := Lib.hid qb
        have Ohi_20 := Lib.hid o1
        have Ohp_20 := Lib.hid o3
        have Ohm_20 := Lib.hid os
        clear qb o1 o3 os b20
        have lh0 : b620 < w20.heap.size := Qh0_20.out.lt
        have ch00 : w20.cell? ⟨b620, 0, none⟩ = some (.slice A20 nz c20) := Qh0_20.out.get 0 rfl
        have ch01 : w20.cell? ⟨b620, 1, none⟩ = some (.slice B20' mp d20) := Qh0_20.out.get 1 rfl
        have lw0 : b63 < w20.heap.size := Qw0_20.out.lt
        have cw00 : w20.cell? ⟨b63, 0, none⟩ = some (.slice A3 nz c3) := Qw0_20.out.get 0 rfl
        have cw01 : w20.cell? ⟨b63, 1, none⟩ = some (.slice B3' mp d3) := Qw0_20.out.get 1 rfl
        go_wp2_with fail
        refine (eq_asm _ _ _ _ _ R.zs _ _ _ _ _ R.ps _ Ohi_20.out.sl Owi_20.out.sl Ohp_20.out.sl Owp_20.out.sl HNZ.out HMP.out (by omega) (by omega)).mono ?_
        rintro e w21 ⟨rfl, b21⟩
        clear lh0 ch00 ch01 lw0 cw00 cw01
        have Qa_21 := Lib.hid (Qa_20.out.below b21 Qa_20.out.lt)
        have Qb_21 := Lib.hid (Qb_20.out.below b21 Qb_20.out.lt)
        have Qw0_21 := Lib.hid (Qw0_20.out.below b21 Qw0_20.out.lt)
        have Owi_21 := Lib.hid (Owi_20.out.below b21 (Nat.le_refl _))
        have Owp_21 := Lib.hid (Owp_20.out.below b21 (Nat.le_refl _))
        have Owm_21 := Lib.hid (Owm_20.out.below b21 (Nat.le_refl _))
        have Oxi_21 := Lib.hid (Oxi_20.out.below b21 (Nat.le_refl _))
        have Oxp_21 := Lib.hid (Oxp_20.out.below b21 (Nat.le_refl _))
        have Qx_21 := Lib.hid (Qx_20.out.below b21 Qx_20.out.lt)
        have Qg0_21 := Lib.hid (Qg0_20.out.below b21 Qg0_20.out.lt)
        have Ogi_21 := Lib.hid (Ogi_20.out.below b21 (Nat.le_refl _))
        have Ogp_21 := Lib.hid (Ogp_20.out.below b21 (Nat.le_refl _))
        have Ogm_21 := Lib.hid (Ogm_20.out.below b21 (Nat.le_refl _))
        have Oti_21 := Lib.hid (Oti_20.out.below b21 (Nat.le_refl _))
        have Otp_21 := Lib.hid (Otp_20.out.below b21 (Nat.le_refl _))
        have Qh0_21 := Lib.hid (Qh0_20.out.below b21 Qh0_20.out.lt)
        have Ohi_21 := Lib.hid (Ohi_20.out.below b21 (Nat.le_refl _))
        have Ohp_21 := Lib.hid (Ohp_20.out.below b21 (Nat.le_refl _))
        have Ohm_21 := Lib.hid (Ohm_20.out.below b21 (Nat.le_refl _))
        have s21 := b21.size
        have B21 := Lib.hid (bstep B20.out b21 B20.out.size)
        have le21 : w20.heap.size ≤ w21.heap.size := by simpa using s21
        clear s21
        clear b21
        go_wp2_with fail
        refine (eq_msgs _ _ _ _ _ R.ms _ Ohm_21.out.sl Owm_21.out.sl HQS.out (by omega)).mono ?_
        rintro e w22 ⟨rfl, b22⟩
        have Qa_22 := Lib.hid (Qa_21.out.below b22 Qa_21.out.lt)
        have Qb_22 := Lib.hid (Qb_21.out.below b22 Qb_21.out.lt)
        have Qw0_22 := Lib.hid (Qw0_21.out.below b22 Qw0_21.out.lt)
        have Owi_22 := Lib.hid (Owi_21.out.below b22 (Nat.le_refl _))
        have Owp_22 := Lib.hid (Owp_21.out.below b22 (Nat.le_refl _))
        have Owm_22 := Lib.hid (Owm_21.out.below b22 (Nat.le_refl _))
        have Oxi_22 := Lib.hid (Oxi_21.out.below b22 (Nat.le_refl _))
        have Oxp_22 := Lib.hid (Oxp_21.out.below b22 (Nat.le_refl _))
        have Qx_22 := Lib.hid (Qx_21.out.below b22 Qx_21.out.lt)
        have Qg0_22 := Lib.hid (Qg0_21.out.below b22 Qg0_21.out.lt)
        have Ogi_22 := Lib.hid (Ogi_21.out.below b22 (Nat.le_refl _))
        have Ogp_22 := Lib.hid (Ogp_21.out.below b22 (Nat.le_refl _))
        have Ogm_22 := Lib.hid (Ogm_21.out.below b22 (Nat.le_refl _))
        have Oti_22 := Lib.hid (Oti_21.out.below b22 (Nat.le_refl _))
        have Otp_22 := Lib.hid (Otp_21.out.below b22 (Nat.le_refl _))
        have Qh0_22 := Lib.hid (Qh0_21.out.below b22 Qh0_21.out.lt)
        have Ohi_22 := Lib.hid (Ohi_21.out.below b22 (Nat.le_refl _))
        have Ohp_22 := Lib.hid (Ohp_21.out.below b22 (Nat.le_refl _))
        have Ohm_22 := Lib.hid (Ohm_21.out.below b22 (Nat.le_refl _))
        have s22 := b22.size
        have B22 := Lib.hid (bstep B21.out b22 B21.out.size)
        have le22 : w21.heap.size ≤ w22.heap.size := by simpa using s22
        clear s22
        clear b22
        have lg0 : b66 < w22.heap.size := Qg0_22.out.lt
        have cg00 : w22.cell? ⟨b66, 0, none⟩ = some (.slice A6 nz c6) := Qg0_22.out.get 0 rfl
        have cg01 : w22.cell? ⟨b66, 1, none⟩ = some (.slice B6' mp d6) := Qg0_22.out.get 1 rfl
        go_wp2_with fail
        refine (held_asm2 _ _ _ _ _ _ 1 _ Ogi_22.out.sl Ogp_22.out.sl (by omega) (by omega) (by omega)).mono ?_
        rintro e w23 ⟨rfl, b23⟩
        clear lg0 cg00 cg01
        have Qa_23 := Lib.hid (Qa_22.out.below b23 Qa_22.out.lt)
        have Qb_23 := Lib.hid (Qb_22.out.below b23 Qb_22.out.lt)
        have Qw0_23 := Lib.hid (Qw0_22.out.below b23 Qw0_22.out.lt)
        have Owi_23 := Lib.hid (Owi_22.out.below b23 (Nat.le_refl _))
        have Owp_23 := Lib.hid (Owp_22.out.below b23 (Nat.le_refl _))
        have Owm_23 := Lib.hid (Owm_22.out.below b23 (Nat.le_refl _))
        have Oxi_23 := Lib.hid (Oxi_22.out.below b23 (Nat.le_refl _))
        have Oxp_23 := Lib.hid (Oxp_22.out.below b23 (Nat.le_refl _))
        have Qx_23 := Lib.hid (Qx_22.out.below b23 Qx_22.out.lt)
        have Qg0_23 := Lib.hid (Qg0_22.out.below b23 Qg0_22.out.lt)
        have Ogi_23 := Lib.hid (Ogi_22.out.below b23 (Nat.le_refl _))
        have Ogp_23 := Lib.hid (Ogp_22.out.below b23 (Nat.le_refl _))
        have Ogm_23 := Lib.hid (Ogm_22.out.below b23 (Nat.le_refl _))
        have Oti_23 := Lib.hid (Oti_22.out.below b23 (Nat.le_refl _))
        have Otp_23 := Lib.hid (Otp_22.out.below b23 (Nat.le_refl _))
        have Qh0_23 := Lib.hid (Qh0_22.out.below b23 Qh0_22.out.lt)
        have Ohi_23 := Lib.hid (Ohi_22.out.below b23 (Nat.le_refl _))
        have Ohp_23 := Lib.hid (Ohp_22.out.below b23 (Nat.le_refl _))
        have Ohm_23 := Lib.hid (Ohm_22.out.below b23 (Nat.le_refl _))
        have s23 := b23.size
        have B23 := Lib.hid (bstep B22.out b23 B22.out.size)
        have le23 : w22.heap.size ≤ w23.heap.size := by simpa using s23
        clear s23
        clear b23
        go_wp2_with fail
        refine (held_msgs _ _ _ (1 + nz + 7 * mp) _ Ogm_23.out.sl (by omega) (by omega)).mono ?_
        rintro e w24 ⟨rfl, b24⟩
        have Qa_24 := Lib.hid (Qa_23.out.below b24 Qa_23.out.lt)
        have Qb_24 := Lib.hid (Qb_23.out.below b24 Qb_23.out.lt)
        have Qw0_24 := Lib.hid (Qw0_23.out.below b24 Qw0_23.out.lt)
        have Owi_24 := Lib.hid (Owi_23.out.below b24 (Nat.le_refl _))
        have Owp_24 := Lib.hid (Owp_23.out.below b24 (Nat.le_refl _))
        have Owm_24 := Lib.hid (Owm_23.out.below b24 (Nat.le_refl _))
        have Oxi_24 := Lib.hid (Oxi_23.out.below b24 (Nat.le_refl _))
        have Oxp_24 := Lib.hid (Oxp_23.out.below b24 (Nat.le_refl _))
        have Qx_24 := Lib.hid (Qx_23.out.below b24 Qx_23.out.lt)
        have Qg0_24 := Lib.hid (Qg0_23.out.below b24 Qg0_23.out.lt)
        have Ogi_24 := Lib.hid (Ogi_23.out.below b24 (Nat.le_refl _))
        have Ogp_24 := Lib.hid (Ogp_23.out.below b24 (Nat.le_refl _))
        have Ogm_24 := Lib.hid (Ogm_23.out.below b24 (Nat.le_refl _))
        have Oti_24 := Lib.hid (Oti_23.out.below b24 (Nat.le_refl _))
        have Otp_24 := Lib.hid (Otp_23.out.below b24 (Nat.le_refl _))
        have Qh0_24 := Lib.hid (Qh0_23.out.below b24 Qh0_23.out.lt)
        have Ohi_24 := Lib.hid (Ohi_23.out.below b24 (Nat.le_refl _))
        have Ohp_24 := Lib.hid (Ohp_23.out.below b24 (Nat.le_refl _))
        have Ohm_24 := Lib.hid (Ohm_23.out.below b24 (Nat.le_refl _))
        have s24 := b24.size
        have B24 := Lib.hid (bstep B23.out b24 B23.out.size)
        have le24 : w23.heap.size ≤ w24.heap.size := by simpa using s24
        clear s24
        clear b24
        go_wp2
        go_ret
        exact ⟨rfl, B24.out⟩
theorem walkFnExactAsmAdd (A : Option Addr) (n c : Nat) (zs : List Int) (A2 : Option Addr) (m d : Nat) (ps : List Dat) (x : Dat) (w : World) (hs : Sl w w.heap.size A (ints zs)) (hn : zs.length = n) (hc : n ≤ c) (hm : c ≤ maxLen) (hp : Sl w w.heap.size A2 (dats ps)) (hm2 : ps.length = m) (hcd : m ≤ d) (hmd : d ≤ maxLen) (ht : Dats ps) (hx : datR x) :
    Calls Try.prog 4 #[.agg #[.slice A n c, .slice A2 m d], datV x] w fun e w' => e = .returned (.bool true) ∧ Below w.heap.size w w' := by
  obtain ⟨g0, g1, g2, g3, g4, g5, g6⟩ := x
  exact walkFnExactAsmAdd0 A n c zs A2 m d ps g0 g1 g2 g3 g4 g5 g6 w hs hn hc hm hp hm2 hcd hmd ht hx.2.2.2
end Go.Proofs.Ytkhaodbcnnlhaaa
