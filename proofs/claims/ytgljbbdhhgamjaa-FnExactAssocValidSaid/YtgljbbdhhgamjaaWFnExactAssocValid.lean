/-
  The walk of 'FnExactAssocValid'. Condition: the parts can be read.
-/
import Derived.Test.YtgljbbdhhgamjaaAssocV
import Derived.Test.YtgljbbdhhgamjaaAssocL
import Derived.Deep.RegionHeld3
namespace Go.Proofs.Ytgljbbdhhgamjaa
open Go.ChangeShapes Go.WideShapes Go.ChangeAt Go.RowKit
set_option linter.unusedVariables false
set_option linter.unusedSimpArgs false
set_option maxHeartbeats 3200000 in
theorem walkFnExactAssocValid (fr to' sta : Int) (by' : Bool) (tag st fi ac : Int) (A : Option Addr) (m c : Nat) (ps : List Dat) (tag' st' fi' ac' : Int) (A' : Option Addr) (m' c' : Nat) (ps' : List Dat) (w : World) (hp : Sl w w.heap.size A (dats ps)) (hm : ps.length = m) (hc2 : m ≤ c) (hm3 : c ≤ maxLen) (ht : Dats ps) (hp' : Sl w w.heap.size A' (dats ps')) (hm' : ps'.length = m') (hc2' : m' ≤ c') (hm3' : c' ≤ maxLen) (ht' : Dats ps') :
    Calls Try.prog 9 #[.agg #[.int .i64 fr, .int .i64 to', .int .i64 sta, .bool by', .int .i64 tag, .int .i64 st, .int .i64 fi, .slice A m c, .int .i64 ac, .int .i64 tag', .int .i64 st', .int .i64 fi', .slice A' m' c', .int .i64 ac']] w fun e w' => e = .returned (.bool true) ∧ Below w.heap.size w w' := by
  have HP := Lib.hid hp; have HM := Lib.hid hm; have HT := Lib.hid ht; have HP' := Lib.hid hp'; have HM' := Lib.hid hm'; have HT' := Lib.hid ht'; clear hp hm ht hp' hm' ht'
  have hm2 : m ≤ 9223372036854775807 := by unfold maxLen at hm3; omega
  have hm2' : m' ≤ 9223372036854775807 := by unfold maxLen at hm3'; omega
  clear hc2 hm3 hc2' hm3'
  obtain ⟨va, hva⟩ : ∃ v, sideB tag st fi ac ps = v := ⟨_, rfl⟩
  obtain ⟨vb, hvb⟩ : ∃ v, sideB tag' st' fi' ac' ps' = v := ⟨_, rfl⟩
  obtain ⟨v, hv⟩ : ∃ v, assocB va vb by' fr to' sta tag tag' m m' = v := ⟨_, rfl⟩
  have HVA := Lib.hid hva; have HVB := Lib.hid hvb; have HV := Lib.hid hv
  clear hva hvb hv
  go_enter Try.func9, Try.ntmps9
  go_wp2_with fail
  refine (sz_assoc _ _ _ _ _ _ _ _ _ _ _ ps _ _ _ _ _ _ _ ps' _ ((HP.out.alloc (Nat.le_refl _) _).more (by simp)) HM.out hm2 HT.out ((HP'.out.alloc (Nat.le_refl _) _).more (by simp)) HM'.out hm2' HT'.out).mono ?_
  rintro e w1 ⟨r, rfl, hr, b1'⟩
  obtain ⟨q1_0, z1, b1⟩ := boxed b1'
  have s1 := b1.size
  have B1 := Lib.hid b1
  have le1 : w.heap.size ≤ w1.heap.size := by simpa using s1
  clear s1
  have Qa_1 := Lib.hid q1_0
  clear b1 b1' q1_0
  have la : w.heap.size < w1.heap.size := Qa_1.out.lt
  have ca0 : w1.cell? ⟨w.heap.size, 0, none⟩ = some (.int .i64 fr) := Qa_1.out.get 0 rfl
  have ca1 : w1.cell? ⟨w.heap.size, 1, none⟩ = some (.int .i64 to') := Qa_1.out.get 1 rfl
  have ca2 : w1.cell? ⟨w.heap.size, 2, none⟩ = some (.int .i64 sta) := Qa_1.out.get 2 rfl
  have ca3 : w1.cell? ⟨w.heap.size, 3, none⟩ = some (.bool by') := Qa_1.out.get 3 rfl
  have ca4 : w1.cell? ⟨w.heap.size, 4, none⟩ = some (.int .i64 tag) := Qa_1.out.get 4 rfl
  have ca5 : w1.cell? ⟨w.heap.size, 5, none⟩ = some (.int .i64 st) := Qa_1.out.get 5 rfl
  have ca6 : w1.cell? ⟨w.heap.size, 6, none⟩ = some (.int .i64 fi) := Qa_1.out.get 6 rfl
  have ca7 : w1.cell? ⟨w.heap.size, 7, none⟩ = some (.slice A m c) := Qa_1.out.get 7 rfl
  have ca8 : w1.cell? ⟨w.heap.size, 8, none⟩ = some (.int .i64 ac) := Qa_1.out.get 8 rfl
  have ca9 : w1.cell? ⟨w.heap.size, 9, none⟩ = some (.int .i64 tag') := Qa_1.out.get 9 rfl
  have ca10 : w1.cell? ⟨w.heap.size, 10, none⟩ = some (.int .i64 st') := Qa_1.out.get 10 rfl
  have ca11 : w1.cell? ⟨w.heap.size, 11, none⟩ = some (.int .i64 fi') := Qa_1.out.get 11 rfl
  have ca12 : w1.cell? ⟨w.heap.size, 12, none⟩ = some (.slice A' m' c') := Qa_1.out.get 12 rfl
  have ca13 : w1.cell? ⟨w.heap.size, 13, none⟩ = some (.int .i64 ac') := Qa_1.out.get 13 rfl
  rcases hr with rfl | ⟨r1, r4, r5⟩
  · go_wp2
    go_ret
    exact ⟨rfl, B1.out⟩
  have hr0 : ¬ r < 0 := by omega
  go_wp2_with fail
  refine (to_assoc _ _ _ _ _ _ _ _ _ _ _ ps _ _ _ _ _ _ _ ps' _ ((HP.out.below B1.out (Nat.le_refl _)).more B1.out.size) HM.out r4 ((HP'.out.below B1.out (Nat.le_refl _)).more B1.out.size) HM'.out r5).mono ?_
  rintro e w2 ⟨A3, c3, A4, c4, rfl, o3, o4, b2⟩
  have k3 : m ≤ c3 ∧ c3 ≤ 9223372036854775807 := by have := o3.caps; unfold maxLen at this; exact this
  have k4 : m' ≤ c4 ∧ c4 ≤ 9223372036854775807 := by have := o4.caps; unfold maxLen at this; exact this
  clear la ca0 ca1 ca2 ca3 ca4 ca5 ca6 ca7 ca8 ca9 ca10 ca11 ca12 ca13
  have Qa_2 := Lib.hid (Qa_1.out.below b2 Qa_1.out.lt)
  have s2 := b2.size
  have B2 := Lib.hid (bstep B1.out b2 B1.out.size)
  have le2 : w1.heap.size ≤ w2.heap.size := by simpa using s2
  clear s2
  have O3_2 := Lib.hid o3
  have O4_2 := Lib.hid o4
  clear b2 o3 o4
  go_wp2_with fail
  refine (sassoc_valid _ _ _ _ _ _ _ _ _ _ _ ps _ _ _ _ _ _ _ ps' HVA.out HVB.out HV.out _ O3_2.out.sl HM.out k3.1 k3.2 HT.out O4_2.out.sl HM'.out k4.1 k4.2 HT'.out).mono ?_
  rintro e w3 ⟨rfl, b3⟩
  have Qa_3 := Lib.hid (Qa_2.out.below b3 Qa_2.out.lt)
  have O3_3 := Lib.hid (O3_2.out.below b3 (Nat.le_refl _))
  have O4_3 := Lib.hid (O4_2.out.below b3 (Nat.le_refl _))
  have s3 := b3.size
  have B3 := Lib.hid (bstep B2.out b3 B2.out.size)
  have le3 : w2.heap.size ≤ w3.heap.size := by simpa using s3
  clear s3
  clear b3
  have la : w.heap.size < w3.heap.size := Qa_3.out.lt
  have ca0 : w3.cell? ⟨w.heap.size, 0, none⟩ = some (.int .i64 fr) := Qa_3.out.get 0 rfl
  have ca1 : w3.cell? ⟨w.heap.size, 1, none⟩ = some (.int .i64 to') := Qa_3.out.get 1 rfl
  have ca2 : w3.cell? ⟨w.heap.size, 2, none⟩ = some (.int .i64 sta) := Qa_3.out.get 2 rfl
  have ca3 : w3.cell? ⟨w.heap.size, 3, none⟩ = some (.bool by') := Qa_3.out.get 3 rfl
  have ca4 : w3.cell? ⟨w.heap.size, 4, none⟩ = some (.int .i64 tag) := Qa_3.out.get 4 rfl
  have ca5 : w3.cell? ⟨w.heap.size, 5, none⟩ = some (.int .i64 st) := Qa_3.out.get 5 rfl
  have ca6 : w3.cell? ⟨w.heap.size, 6, none⟩ = some (.int .i64 fi) := Qa_3.out.get 6 rfl
  have ca7 : w3.cell? ⟨w.heap.size, 7, none⟩ = some (.slice A m c) := Qa_3.out.get 7 rfl
  have ca8 : w3.cell? ⟨w.heap.size, 8, none⟩ = some (.int .i64 ac) := Qa_3.out.get 8 rfl
  have ca9 : w3.cell? ⟨w.heap.size, 9, none⟩ = some (.int .i64 tag') := Qa_3.out.get 9 rfl
  have ca10 : w3.cell? ⟨w.heap.size, 10, none⟩ = some (.int .i64 st') := Qa_3.out.get 10 rfl
  have ca11 : w3.cell? ⟨w.heap.size, 11, none⟩ = some (.int .i64 fi') := Qa_3.out.get 11 rfl
  have ca12 : w3.cell? ⟨w.heap.size, 12, none⟩ = some (.slice A' m' c') := Qa_3.out.get 12 rfl
  have ca13 : w3.cell? ⟨w.heap.size, 13, none⟩ = some (.int .i64 ac') := Qa_3.out.get 13 rfl
  go_wp2_with fail
  refine (to_assoc _ _ _ _ _ _ _ _ _ _ _ ps _ _ _ _ _ _ _ ps' _ ((HP.out.below B3.out (Nat.le_refl _)).more B3.out.size) HM.out r4 ((HP'.out.below B3.out (Nat.le_refl _)).more B3.out.size) HM'.out r5).mono ?_
  rintro e w4 ⟨A5, c5, A6, c6, rfl, o5, o6, b4⟩
  have k5 : m ≤ c5 ∧ c5 ≤ 9223372036854775807 := by have := o5.caps; unfold maxLen at this; exact this
  have k6 : m' ≤ c6 ∧ c6 ≤ 9223372036854775807 := by have := o6.caps; unfold maxLen at this; exact this
  clear la ca0 ca1 ca2 ca3 ca4 ca5 ca6 ca7 ca8 ca9 ca10 ca11 ca12 ca13
  have Qa_4 := Lib.hid (Qa_3.out.below b4 Qa_3.out.lt)
  have O3_4 := Lib.hid (O3_3.out.below b4 (Nat.le_refl _))
  have O4_4 := Lib.hid (O4_3.out.below b4 (Nat.le_refl _))
  have s4 := b4.size
  have B4 := Lib.hid (bstep B3.out b4 B3.out.size)
  have le4 : w3.heap.size ≤ w4.heap.size := by simpa using s4
  clear s4
  have O5_4 := Lib.hid o5
  have O6_4 := Lib.hid o6
  clear b4 o5 o6
  go_wp2_with fail
  refine (iassoc_valid _ _ _ _ _ _ _ _ _ _ _ ps _ _ _ _ _ _ _ ps' HVA.out HVB.out HV.out _ ((O5_4.out.sl.alloc (Nat.le_refl _) _).more (by simp)) HM.out k5.1 k5.2 HT.out ((O6_4.out.sl.alloc (Nat.le_refl _) _).more (by simp)) HM'.out k6.1 k6.2 HT'.out).mono ?_
  rintro e w5 ⟨rfl, b5'⟩
  obtain ⟨q5_0, z5, b5⟩ := boxed b5'
  have Qa_5 := Lib.hid (Qa_4.out.below b5 Qa_4.out.lt)
  have O3_5 := Lib.hid (O3_4.out.below b5 (Nat.le_refl _))
  have O4_5 := Lib.hid (O4_4.out.below b5 (Nat.le_refl _))
  have O5_5 := Lib.hid (O5_4.out.below b5 (Nat.le_refl _))
  have O6_5 := Lib.hid (O6_4.out.below b5 (Nat.le_refl _))
  have s5 := b5.size
  have B5 := Lib.hid (bstep B4.out b5 B4.out.size)
  have le5 : w4.heap.size ≤ w5.heap.size := by simpa using s5
  clear s5
  have Qx_5 := Lib.hid q5_0
  clear b5 b5' q5_0
  have la : w.heap.size < w5.heap.size := Qa_5.out.lt
  have ca0 : w5.cell? ⟨w.heap.size, 0, none⟩ = some (.int .i64 fr) := Qa_5.out.get 0 rfl
  have ca1 : w5.cell? ⟨w.heap.size, 1, none⟩ = some (.int .i64 to') := Qa_5.out.get 1 rfl
  have ca2 : w5.cell? ⟨w.heap.size, 2, none⟩ = some (.int .i64 sta) := Qa_5.out.get 2 rfl
  have ca3 : w5.cell? ⟨w.heap.size, 3, none⟩ = some (.bool by') := Qa_5.out.get 3 rfl
  have ca4 : w5.cell? ⟨w.heap.size, 4, none⟩ = some (.int .i64 tag) := Qa_5.out.get 4 rfl
  have ca5 : w5.cell? ⟨w.heap.size, 5, none⟩ = some (.int .i64 st) := Qa_5.out.get 5 rfl
  have ca6 : w5.cell? ⟨w.heap.size, 6, none⟩ = some (.int .i64 fi) := Qa_5.out.get 6 rfl
  have ca7 : w5.cell? ⟨w.heap.size, 7, none⟩ = some (.slice A m c) := Qa_5.out.get 7 rfl
  have ca8 : w5.cell? ⟨w.heap.size, 8, none⟩ = some (.int .i64 ac) := Qa_5.out.get 8 rfl
  have ca9 : w5.cell? ⟨w.heap.size, 9, none⟩ = some (.int .i64 tag') := Qa_5.out.get 9 rfl
  have ca10 : w5.cell? ⟨w.heap.size, 10, none⟩ = some (.int .i64 st') := Qa_5.out.get 10 rfl
  have ca11 : w5.cell? ⟨w.heap.size, 11, none⟩ = some (.int .i64 fi') := Qa_5.out.get 11 rfl
  have ca12 : w5.cell? ⟨w.heap.size, 12, none⟩ = some (.slice A' m' c') := Qa_5.out.get 12 rfl
  have ca13 : w5.cell? ⟨w.heap.size, 13, none⟩ = some (.int .i64 ac') := Qa_5.out.get 13 rfl
  have lx : w4.heap.size < w5.heap.size := Qx_5.out.lt
  have cx0 : w5.cell? ⟨w4.heap.size, 0, none⟩ = some (.int .i64 fr) := Qx_5.out.get 0 rfl
  have cx1 : w5.cell? ⟨w4.heap.size, 1, none⟩ = some (.int .i64 to') := Qx_5.out.get 1 rfl
  have cx2 : w5.cell? ⟨w4.heap.size, 2, none⟩ = some (.int .i64 sta) := Qx_5.out.get 2 rfl
  have cx3 : w5.cell? ⟨w4.heap.size, 3, none⟩ = some (.bool by') := Qx_5.out.get 3 rfl
  have cx4 : w5.cell? ⟨w4.heap.size, 4, none⟩ = some (.int .i64 tag) := Qx_5.out.get 4 rfl
  have cx5 : w5.cell? ⟨w4.heap.size, 5, none⟩ = some (.int .i64 st) := Qx_5.out.get 5 rfl
  have cx6 : w5.cell? ⟨w4.heap.size, 6, none⟩ = some (.int .i64 fi) := Qx_5.out.get 6 rfl
  have cx7 : w5.cell? ⟨w4.heap.size, 7, none⟩ = some (.slice A5 m c5) := Qx_5.out.get 7 rfl
  have cx8 : w5.cell? ⟨w4.heap.size, 8, none⟩ = some (.int .i64 ac) := Qx_5.out.get 8 rfl
  have cx9 : w5.cell? ⟨w4.heap.size, 9, none⟩ = some (.int .i64 tag') := Qx_5.out.get 9 rfl
  have cx10 : w5.cell? ⟨w4.heap.size, 10, none⟩ = some (.int .i64 st') := Qx_5.out.get 10 rfl
  have cx11 : w5.cell? ⟨w4.heap.size, 11, none⟩ = some (.int .i64 fi') := Qx_5.out.get 11 rfl
  have cx12 : w5.cell? ⟨w4.heap.size, 12, none⟩ = some (.slice A6 m' c6) := Qx_5.out.get 12 rfl
  have cx13 : w5.cell? ⟨w4.heap.size, 13, none⟩ = some (.int .i64 ac') := Qx_5.out.get 13 rfl
  go_wp2_with fail
  go_region_held3 (fun w' => w'.cell? ⟨w4.heap.size, 0, none⟩ = some (.int .i64 fr) ∧ w'.cell? ⟨w4.heap.size, 1, none⟩ = some (.int .i64 to') ∧ w'.cell? ⟨w4.heap.size, 2, none⟩ = some (.int .i64 sta) ∧ w'.cell? ⟨w4.heap.size, 3, none⟩ = some (.bool by') ∧ w'.cell? ⟨w4.heap.size, 4, none⟩ = some (.int .i64 tag) ∧ w'.cell? ⟨w4.heap.size, 5, none⟩ = some (.int .i64 st) ∧ w'.cell? ⟨w4.heap.size, 6, none⟩ = some (.int .i64 fi) ∧ w'.cell? ⟨w4.heap.size, 7, none⟩ = some (.slice A5 m c5) ∧ w'.cell? ⟨w4.heap.size, 8, none⟩ = some (.int .i64 ac) ∧ w'.cell? ⟨w4.heap.size, 9, none⟩ = some (.int .i64 tag') ∧ w'.cell? ⟨w4.heap.size, 10, none⟩ = some (.int .i64 st') ∧ w'.cell? ⟨w4.heap.size, 11, none⟩ = some (.int .i64 fi') ∧ w'.cell? ⟨w4.heap.size, 12, none⟩ = some (.slice A6 m' c6) ∧ w'.cell? ⟨w4.heap.size, 13, none⟩ = some (.int .i64 ac') ∧ w'.cell? ⟨w.heap.size, 0, none⟩ = some (.int .i64 fr) ∧ w'.cell? ⟨w.heap.size, 1, none⟩ = some (.int .i64 to') ∧ w'.cell? ⟨w.heap.size, 2, none⟩ = some (.int .i64 sta) ∧ w'.cell? ⟨w.heap.size, 3, none⟩ = some (.bool by') ∧ w'.cell? ⟨w.heap.size, 4, none⟩ = some (.int .i64 tag) ∧ w'.cell? ⟨w.heap.size, 5, none⟩ = some (.int .i64 st) ∧ w'.cell? ⟨w.heap.size, 6, none⟩ = some (.int .i64 fi) ∧ w'.cell? ⟨w.heap.size, 7, none⟩ = some (.slice A m c) ∧ w'.cell? ⟨w.heap.size, 8, none⟩ = some (.int .i64 ac) ∧ w'.cell? ⟨w.heap.size, 9, none⟩ = some (.int .i64 tag') ∧ w'.cell? ⟨w.heap.size, 10, none⟩ = some (.int .i64 st') ∧ w'.cell? ⟨w.heap.size, 11, none⟩ = some (.int .i64 fi') ∧ w'.cell? ⟨w.heap.size, 12, none⟩ = some (.slice A' m' c') ∧ w'.cell? ⟨w.heap.size, 13, none⟩ = some (.int .i64 ac')) (first | exact ⟨cx0, cx1, cx2, cx3, cx4, cx5, cx6, cx7, cx8, cx9, cx10, cx11, cx12, cx13, ca0, ca1, ca2, ca3, ca4, ca5, ca6, ca7, ca8, ca9, ca10, ca11, ca12, ca13⟩ | exact ⟨dx0, dx1, dx2, dx3, dx4, dx5, dx6, dx7, dx8, dx9, dx10, dx11, dx12, dx13, da0, da1, da2, da3, da4, da5, da6, da7, da8, da9, da10, da11, da12, da13⟩ | exact ⟨ex0, ex1, ex2, ex3, ex4, ex5, ex6, ex7, ex8, ex9, ex10, ex11, ex12, ex13, ea0, ea1, ea2, ea3, ea4, ea5, ea6, ea7, ea8, ea9, ea10, ea11, ea12, ea13⟩ | go_keep)
    (first
      | (go_at_call 42; refine (to_assoc _ _ _ _ _ _ _ _ _ _ _ ps _ _ _ _ _ _ _ ps' _ ((HP.out.below B5.out.drew (Nat.le_refl _)).more B5.out.size) HM.out r4 ((HP'.out.below B5.out.drew (Nat.le_refl _)).more B5.out.size) HM'.out r5).mono ?_; rintro e w6 ⟨A7, c7, A8, c8, rfl, o7, o8, b6⟩; have Qa_6 := Lib.hid (Qa_5.out.drew.below b6 Qa_5.out.lt); have O3_6 := Lib.hid (O3_5.out.drew.below b6 (Nat.le_refl _)); have O4_6 := Lib.hid (O4_5.out.drew.below b6 (Nat.le_refl _)); have O5_6 := Lib.hid (O5_5.out.drew.below b6 (Nat.le_refl _)); have O6_6 := Lib.hid (O6_5.out.drew.below b6 (Nat.le_refl _)); have Qx_6 := Lib.hid (Qx_5.out.drew.below b6 Qx_5.out.lt); have O7_6 := Lib.hid o7; have O8_6 := Lib.hid o8; have B6 := Lib.hid (bstep B5.out.drew b6 B5.out.size); have le6 : w5.heap.size ≤ w6.heap.size := b6.size; have dx0 : w6.cell? ⟨w4.heap.size, 0, none⟩ = some (.int .i64 fr) := Qx_6.out.get 0 rfl; have dx1 : w6.cell? ⟨w4.heap.size, 1, none⟩ = some (.int .i64 to') := Qx_6.out.get 1 rfl; have dx2 : w6.cell? ⟨w4.heap.size, 2, none⟩ = some (.int .i64 sta) := Qx_6.out.get 2 rfl; have dx3 : w6.cell? ⟨w4.heap.size, 3, none⟩ = some (.bool by') := Qx_6.out.get 3 rfl; have dx4 : w6.cell? ⟨w4.heap.size, 4, none⟩ = some (.int .i64 tag) := Qx_6.out.get 4 rfl; have dx5 : w6.cell? ⟨w4.heap.size, 5, none⟩ = some (.int .i64 st) := Qx_6.out.get 5 rfl; have dx6 : w6.cell? ⟨w4.heap.size, 6, none⟩ = some (.int .i64 fi) := Qx_6.out.get 6 rfl; have dx7 : w6.cell? ⟨w4.heap.size, 7, none⟩ = some (.slice A5 m c5) := Qx_6.out.get 7 rfl; have dx8 : w6.cell? ⟨w4.heap.size, 8, none⟩ = some (.int .i64 ac) := Qx_6.out.get 8 rfl; have dx9 : w6.cell? ⟨w4.heap.size, 9, none⟩ = some (.int .i64 tag') := Qx_6.out.get 9 rfl; have dx10 : w6.cell? ⟨w4.heap.size, 10, none⟩ = some (.int .i64 st') := Qx_6.out.get 10 rfl; have dx11 : w6.cell? ⟨w4.heap.size, 11, none⟩ = some (.int .i64 fi') := Qx_6.out.get 11 rfl; have dx12 : w6.cell? ⟨w4.heap.size, 12, none⟩ = some (.slice A6 m' c6) := Qx_6.out.get 12 rfl; have dx13 : w6.cell? ⟨w4.heap.size, 13, none⟩ = some (.int .i64 ac') := Qx_6.out.get 13 rfl; have da0 : w6.cell? ⟨w.heap.size, 0, none⟩ = some (.int .i64 fr) := Qa_6.out.get 0 rfl; have da1 : w6.cell? ⟨w.heap.size, 1, none⟩ = some (.int .i64 to') := Qa_6.out.get 1 rfl; have da2 : w6.cell? ⟨w.heap.size, 2, none⟩ = some (.int .i64 sta) := Qa_6.out.get 2 rfl; have da3 : w6.cell? ⟨w.heap.size, 3, none⟩ = some (.bool by') := Qa_6.out.get 3 rfl; have da4 : w6.cell? ⟨w.heap.size, 4, none⟩ = some (.int .i64 tag) := Qa_6.out.get 4 rfl; have da5 : w6.cell? ⟨w.heap.size, 5, none⟩ = some (.int .i64 st) := Qa_6.out.get 5 rfl; have da6 : w6.cell? ⟨w.heap.size, 6, none⟩ = some (.int .i64 fi) := Qa_6.out.get 6 rfl; have da7 : w6.cell? ⟨w.heap.size, 7, none⟩ = some (.slice A m c) := Qa_6.out.get 7 rfl; have da8 : w6.cell? ⟨w.heap.size, 8, none⟩ = some (.int .i64 ac) := Qa_6.out.get 8 rfl; have da9 : w6.cell? ⟨w.heap.size, 9, none⟩ = some (.int .i64 tag') := Qa_6.out.get 9 rfl; have da10 : w6.cell? ⟨w.heap.size, 10, none⟩ = some (.int .i64 st') := Qa_6.out.get 10 rfl; have da11 : w6.cell? ⟨w.heap.size, 11, none⟩ = some (.int .i64 fi') := Qa_6.out.get 11 rfl; have da12 : w6.cell? ⟨w.heap.size, 12, none⟩ = some (.slice A' m' c') := Qa_6.out.get 12 rfl; have da13 : w6.cell? ⟨w.heap.size, 13, none⟩ = some (.int .i64 ac') := Qa_6.out.get 13 rfl; clear b6 o7 o8)
      | (go_at_call 44; refine (eq_assoc _ _ _ _ _ _ _ _ _ _ _ ps _ _ _ _ _ _ _ ps' _ _ _ _ _ O5_6.out.sl O7_6.out.sl HM.out hm2 O6_6.out.sl O8_6.out.sl HM'.out hm2').mono ?_; rintro e w7 ⟨rfl, b7⟩; have ex0 : w7.cell? ⟨w4.heap.size, 0, none⟩ = some (.int .i64 fr) := (Qx_6.out.below b7 Qx_6.out.lt).get 0 rfl; have ex1 : w7.cell? ⟨w4.heap.size, 1, none⟩ = some (.int .i64 to') := (Qx_6.out.below b7 Qx_6.out.lt).get 1 rfl; have ex2 : w7.cell? ⟨w4.heap.size, 2, none⟩ = some (.int .i64 sta) := (Qx_6.out.below b7 Qx_6.out.lt).get 2 rfl; have ex3 : w7.cell? ⟨w4.heap.size, 3, none⟩ = some (.bool by') := (Qx_6.out.below b7 Qx_6.out.lt).get 3 rfl; have ex4 : w7.cell? ⟨w4.heap.size, 4, none⟩ = some (.int .i64 tag) := (Qx_6.out.below b7 Qx_6.out.lt).get 4 rfl; have ex5 : w7.cell? ⟨w4.heap.size, 5, none⟩ = some (.int .i64 st) := (Qx_6.out.below b7 Qx_6.out.lt).get 5 rfl; have ex6 : w7.cell? ⟨w4.heap.size, 6, none⟩ = some (.int .i64 fi) := (Qx_6.out.below b7 Qx_6.out.lt).get 6 rfl; have ex7 : w7.cell? ⟨w4.heap.size, 7, none⟩ = some (.slice A5 m c5) := (Qx_6.out.below b7 Qx_6.out.lt).get 7 rfl; have ex8 : w7.cell? ⟨w4.heap.size, 8, none⟩ = some (.int .i64 ac) := (Qx_6.out.below b7 Qx_6.out.lt).get 8 rfl; have ex9 : w7.cell? ⟨w4.heap.size, 9, none⟩ = some (.int .i64 tag') := (Qx_6.out.below b7 Qx_6.out.lt).get 9 rfl; have ex10 : w7.cell? ⟨w4.heap.size, 10, none⟩ = some (.int .i64 st') := (Qx_6.out.below b7 Qx_6.out.lt).get 10 rfl; have ex11 : w7.cell? ⟨w4.heap.size, 11, none⟩ = some (.int .i64 fi') := (Qx_6.out.below b7 Qx_6.out.lt).get 11 rfl; have ex12 : w7.cell? ⟨w4.heap.size, 12, none⟩ = some (.slice A6 m' c6) := (Qx_6.out.below b7 Qx_6.out.lt).get 12 rfl; have ex13 : w7.cell? ⟨w4.heap.size, 13, none⟩ = some (.int .i64 ac') := (Qx_6.out.below b7 Qx_6.out.lt).get 13 rfl; have ea0 : w7.cell? ⟨w.heap.size, 0, none⟩ = some (.int .i64 fr) := (Qa_6.out.below b7 Qa_6.out.lt).get 0 rfl; have ea1 : w7.cell? ⟨w.heap.size, 1, none⟩ = some (.int .i64 to') := (Qa_6.out.below b7 Qa_6.out.lt).get 1 rfl; have ea2 : w7.cell? ⟨w.heap.size, 2, none⟩ = some (.int .i64 sta) := (Qa_6.out.below b7 Qa_6.out.lt).get 2 rfl; have ea3 : w7.cell? ⟨w.heap.size, 3, none⟩ = some (.bool by') := (Qa_6.out.below b7 Qa_6.out.lt).get 3 rfl; have ea4 : w7.cell? ⟨w.heap.size, 4, none⟩ = some (.int .i64 tag) := (Qa_6.out.below b7 Qa_6.out.lt).get 4 rfl; have ea5 : w7.cell? ⟨w.heap.size, 5, none⟩ = some (.int .i64 st) := (Qa_6.out.below b7 Qa_6.out.lt).get 5 rfl; have ea6 : w7.cell? ⟨w.heap.size, 6, none⟩ = some (.int .i64 fi) := (Qa_6.out.below b7 Qa_6.out.lt).get 6 rfl; have ea7 : w7.cell? ⟨w.heap.size, 7, none⟩ = some (.slice A m c) := (Qa_6.out.below b7 Qa_6.out.lt).get 7 rfl; have ea8 : w7.cell? ⟨w.heap.size, 8, none⟩ = some (.int .i64 ac) := (Qa_6.out.below b7 Qa_6.out.lt).get 8 rfl; have ea9 : w7.cell? ⟨w.heap.size, 9, none⟩ = some (.int .i64 tag') := (Qa_6.out.below b7 Qa_6.out.lt).get 9 rfl; have ea10 : w7.cell? ⟨w.heap.size, 10, none⟩ = some (.int .i64 st') := (Qa_6.out.below b7 Qa_6.out.lt).get 10 rfl; have ea11 : w7.cell? ⟨w.heap.size, 11, none⟩ = some (.int .i64 fi') := (Qa_6.out.below b7 Qa_6.out.lt).get 11 rfl; have ea12 : w7.cell? ⟨w.heap.size, 12, none⟩ = some (.slice A' m' c') := (Qa_6.out.below b7 Qa_6.out.lt).get 12 rfl; have ea13 : w7.cell? ⟨w.heap.size, 13, none⟩ = some (.int .i64 ac') := (Qa_6.out.below b7 Qa_6.out.lt).get 13 rfl; have BB7 := Lib.hid b7; clear b7))
  have b7 := BB7.out
  clear cx0 cx1 cx2 cx3 cx4 cx5 cx6 cx7 cx8 cx9 cx10 cx11 cx12 cx13 ca0 ca1 ca2 ca3 ca4 ca5 ca6 ca7 ca8 ca9 ca10 ca11 ca12 ca13 dx0 dx1 dx2 dx3 dx4 dx5 dx6 dx7 dx8 dx9 dx10 dx11 dx12 dx13 da0 da1 da2 da3 da4 da5 da6 da7 da8 da9 da10 da11 da12 da13 ex0 ex1 ex2 ex3 ex4 ex5 ex6 ex7 ex8 ex9 ex10 ex11 ex12 ex13 ea0 ea1 ea2 ea3 ea4 ea5 ea6 ea7 ea8 ea9 ea10 ea11 ea12 ea13
  clear la lx
  have Qa_7 := Lib.hid (Qa_6.out.below b7 Qa_6.out.lt)
  have O3_7 := Lib.hid (O3_6.out.below b7 (Nat.le_refl _))
  have O4_7 := Lib.hid (O4_6.out.below b7 (Nat.le_refl _))
  have O5_7 := Lib.hid (O5_6.out.below b7 (Nat.le_refl _))
  have O6_7 := Lib.hid (O6_6.out.below b7 (Nat.le_refl _))
  have Qx_7 := Lib.hid (Qx_6.out.below b7 Qx_6.out.lt)
  have O7_7 := Lib.hid (O7_6.out.below b7 (Nat.le_refl _))
  have O8_7 := Lib.hid (O8_6.out.below b7 (Nat.le_refl _))
  have s7 := b7.size
  have B7 := Lib.hid (bstep B6.out b7 B6.out.size)
  have le7 : w6.heap.size ≤ w7.heap.size := by simpa using s7
  clear s7
  clear b7
  go_wp2
  go_ret
  exact ⟨rfl, B7.out⟩
end Go.Proofs.Ytgljbbdhhgamjaa
