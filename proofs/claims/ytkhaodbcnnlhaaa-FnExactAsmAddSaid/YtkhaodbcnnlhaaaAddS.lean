/-
  What AsmAdd of the reference returns. Conditions: those that each theorem bears.
-/
import Derived.Test.YtkhaodbcnnlhaaaAddP
namespace Go.Proofs.Ytkhaodbcnnlhaaa
open Go.ChangeShapes Go.WideShapes Go.ChangeAt Go.RowKit
set_option linter.unusedVariables false
set_option linter.unusedSimpArgs false
set_option maxHeartbeats 25600000 in
set_option maxRecDepth 100000 in
theorem sasm_add (A : Option Addr) (n c : Nat) (zs : List Int) (A2 : Option Addr) (m d : Nat) (ps : List Dat) (g0 g1 g2 : Int) (g3 g4 g5 : Bool) (g6 : ByteArray) {r : Added} (hr : addA zs ps ⟨g0, g1, g2, g3, g4, g5, g6⟩ = r) (w : World) (hs : Sl w w.heap.size A (ints zs)) (hp : Sl w w.heap.size A2 (dats ps)) (hn : zs.length = n) (hm : ps.length = m) (hn2 : n ≤ 9223372036854775807) (hmd : m ≤ d) (hd2 : d ≤ 9223372036854775807) (ht : Dats ps) (hg : g6.size ≤ 9223372036854775807) :
    Calls Try.prog 17 #[.agg #[.slice A n c, .slice A2 m d], .agg #[.int .i64 g0, .int .i64 g1, .int .i64 g2, .bool g3, .bool g4, .bool g5, .string g6]] w (AddP r w) := by
  have HS := Lib.hid hs; have HP := Lib.hid hp; have HN := Lib.hid hn; have HM := Lib.hid hm; have HT := Lib.hid ht; have HR := Lib.hid hr; clear hs hp hn hm ht hr
  obtain ⟨v, hv⟩ : ∃ v, asmB zs ps = v := ⟨_, rfl⟩
  have HV := Lib.hid hv
  have IV := fun w hs hp => sasm_valid A n c zs A2 m d ps w hs hp HN.out HM.out hn2 hmd hd2 HT.out
  rw [hv] at IV
  clear hv
  go_enter Try.func17, Try.ntmps17
  go_wp2_with fail
  refine (IV _ ((((HS.out.alloc (Nat.le_refl _) _).alloc (by simp) _).alloc (by simp; omega) _).more (by simp; omega)) ((((HP.out.alloc (Nat.le_refl _) _).alloc (by simp) _).alloc (by simp; omega) _).more (by simp; omega))).mono ?_
  rintro e w1 ⟨rfl, b1'⟩
  obtain ⟨q1, q2, q3, z1, b1⟩ := boxed3 b1'
  have B1 := Lib.hid b1
  have X1 := Lib.hid q1
  have Y1 := Lib.hid q2
  have Z1 := Lib.hid q3
  clear b1 b1' q1 q2 q3 IV
  have hb1 := B1.out.size
  cases v with
  | false =>
    have HE := Lib.hid (HR.out.symm.trans (add_bad (fun h => by have := h.1; rw [HV.out] at this; cases this)))
    clear HR
    have za0 : w1.cell? ⟨w.heap.size + 2, 0, none⟩ = some (.slice none 0 0) := Z1.out.get 0 rfl
    have za1 : w1.cell? ⟨w.heap.size + 2, 1, none⟩ = some (.slice none 0 0) := Z1.out.get 1 rfl
    have zf0 := Z1.out.frozen 0
    have zf1 := Z1.out.frozen 1
    have hzl := Z1.out.lt
    go_wp2
    have ZZ := Lib.hid (by have h := ((Z1.out.set_ 0 (.slice none 0 0)).set_ 1 (.slice none 0 0)).alloc (.cells #[] 64); exact h : Blk (((w1.setCell ⟨w.heap.size + 1 + 1, 0, none⟩ (.slice none 0 0)).setCell ⟨w.heap.size + 1 + 1, 1, none⟩ (.slice none 0 0)).alloc (.cells #[] 64)) (w.heap.size + 1 + 1) #[.slice none 0 0, .slice none 0 0] 41)
    have BB := Lib.hid (((B1.out.setCell (p := ⟨w.heap.size + 1 + 1, 0, none⟩) (by show _ ≤ _ + _; omega) (.slice none 0 0)).setCell (p := ⟨w.heap.size + 1 + 1, 1, none⟩) (by show _ ≤ _ + _; omega) (.slice none 0 0)).alloc (by simp [World.setCell]; omega) (.cells #[] 64))
    have ms := Lib.hid (by have h := (Own.made ((w1.setCell ⟨w.heap.size + 1 + 1, 0, none⟩ (.slice none 0 0)).setCell ⟨w.heap.size + 1 + 1, 1, none⟩ (.slice none 0 0)) ((w1.setCell ⟨w.heap.size + 1 + 1, 0, none⟩ (.slice none 0 0)).setCell ⟨w.heap.size + 1 + 1, 1, none⟩ (.slice none 0 0)).heap.size 64 4 #[] 0 (Nat.le_refl _) (by unfold maxLen; omega) rfl).lower (b := w.heap.size) (by simp [World.setCell]; omega); rw [(by simp [World.setCell] : ((w1.setCell ⟨w.heap.size + 1 + 1, 0, none⟩ (.slice none 0 0)).setCell ⟨w.heap.size + 1 + 1, 1, none⟩ (.slice none 0 0)).heap.size = w1.heap.size)] at h; exact h : Own (((w1.setCell ⟨w.heap.size + 1 + 1, 0, none⟩ (.slice none 0 0)).setCell ⟨w.heap.size + 1 + 1, 1, none⟩ (.slice none 0 0)).alloc (.cells #[] 64)) w.heap.size 64 4 (some ⟨w1.heap.size, 0, none⟩) 0 0 (msgs []))
    have ra : World.cell? _ ⟨w.heap.size + 1 + 1, 0, none⟩ = some (.slice none 0 0) := ZZ.out.get 0 rfl
    have rb : World.cell? _ ⟨w.heap.size + 1 + 1, 1, none⟩ = some (.slice none 0 0) := ZZ.out.get 1 rfl
    refine bodyPost_ret (v := .tuple #[.agg #[.slice none 0 0, .slice none 0 0], .slice (some ⟨w1.heap.size, 0, none⟩) 0 0, .int .i64 3]) (by simp [results, Try.results17, go_sem, ra, rb]) rfl ?_
    exact ⟨none, 0, 0, none, 0, 0, _, 0, 0, by rw [HE.out], by rw [HE.out]; rfl, by rw [HE.out]; rfl, by rw [HE.out]; rfl, by rw [HE.out]; exact Own.nil _ _ _ _, by rw [HE.out]; exact Own.nil _ _ _ _, by rw [HE.out]; exact ms.out, BB.out⟩
  | true =>
    obtain ⟨v2, hv2⟩ : ∃ v, datB ⟨g0, g1, g2, g3, g4, g5, g6⟩ = v := ⟨_, rfl⟩
    have HV2 := Lib.hid hv2
    clear hv2
    have y0 : w1.cell? ⟨w.heap.size + 1, 0, none⟩ = some (.int .i64 g0) := Y1.out.get 0 rfl
    have y1 : w1.cell? ⟨w.heap.size + 1, 1, none⟩ = some (.int .i64 g1) := Y1.out.get 1 rfl
    have y2 : w1.cell? ⟨w.heap.size + 1, 2, none⟩ = some (.int .i64 g2) := Y1.out.get 2 rfl
    have y3 : w1.cell? ⟨w.heap.size + 1, 3, none⟩ = some (.bool g3) := Y1.out.get 3 rfl
    have y4 : w1.cell? ⟨w.heap.size + 1, 4, none⟩ = some (.bool g4) := Y1.out.get 4 rfl
    have y5 : w1.cell? ⟨w.heap.size + 1, 5, none⟩ = some (.bool g5) := Y1.out.get 5 rfl
    have y6 : w1.cell? ⟨w.heap.size + 1, 6, none⟩ = some (.string g6) := Y1.out.get 6 rfl
    have hyl := Y1.out.lt
    go_wp2_with fail
    refine (sdata_eq HV2.out hg _).mono ?_
    rintro e w2 ⟨rfl, b2⟩
    have B2 := Lib.hid (bstep B1.out b2 hb1)
    have X2 := Lib.hid (X1.out.below b2 X1.out.lt)
    have Y2 := Lib.hid (Y1.out.below b2 Y1.out.lt)
    have Z2 := Lib.hid (Z1.out.below b2 Z1.out.lt)
    have z2 : w.heap.size + 2 < w2.heap.size := Z2.out.lt
    clear b2 y0 y1 y2 y3 y4 y5 y6 hyl
    clear B1 X1 Y1 Z1
    cases v2 with
    | false =>
      have HE := Lib.hid (HR.out.symm.trans (add_bad (fun h => by have := h.2.1; rw [HV2.out] at this; cases this)))
      clear HR
      have za0 : w2.cell? ⟨w.heap.size + 2, 0, none⟩ = some (.slice none 0 0) := Z2.out.get 0 rfl
      have za1 : w2.cell? ⟨w.heap.size + 2, 1, none⟩ = some (.slice none 0 0) := Z2.out.get 1 rfl
      have zf0 := Z2.out.frozen 0
      have zf1 := Z2.out.frozen 1
      have hzl := Z2.out.lt
      go_wp2
      have ZZ := Lib.hid (by have h := ((Z2.out.set_ 0 (.slice none 0 0)).set_ 1 (.slice none 0 0)).alloc (.cells #[] 64); exact h : Blk (((w2.setCell ⟨w.heap.size + 1 + 1, 0, none⟩ (.slice none 0 0)).setCell ⟨w.heap.size + 1 + 1, 1, none⟩ (.slice none 0 0)).alloc (.cells #[] 64)) (w.heap.size + 1 + 1) #[.slice none 0 0, .slice none 0 0] 41)
      have BB := Lib.hid (((B2.out.setCell (p := ⟨w.heap.size + 1 + 1, 0, none⟩) (by show _ ≤ _ + _; omega) (.slice none 0 0)).setCell (p := ⟨w.heap.size + 1 + 1, 1, none⟩) (by show _ ≤ _ + _; omega) (.slice none 0 0)).alloc (by simp [World.setCell]; omega) (.cells #[] 64))
      have ms := Lib.hid (by have h := (Own.made ((w2.setCell ⟨w.heap.size + 1 + 1, 0, none⟩ (.slice none 0 0)).setCell ⟨w.heap.size + 1 + 1, 1, none⟩ (.slice none 0 0)) ((w2.setCell ⟨w.heap.size + 1 + 1, 0, none⟩ (.slice none 0 0)).setCell ⟨w.heap.size + 1 + 1, 1, none⟩ (.slice none 0 0)).heap.size 64 4 #[] 0 (Nat.le_refl _) (by unfold maxLen; omega) rfl).lower (b := w.heap.size) (by simp [World.setCell]; omega); rw [(by simp [World.setCell] : ((w2.setCell ⟨w.heap.size + 1 + 1, 0, none⟩ (.slice none 0 0)).setCell ⟨w.heap.size + 1 + 1, 1, none⟩ (.slice none 0 0)).heap.size = w2.heap.size)] at h; exact h : Own (((w2.setCell ⟨w.heap.size + 1 + 1, 0, none⟩ (.slice none 0 0)).setCell ⟨w.heap.size + 1 + 1, 1, none⟩ (.slice none 0 0)).alloc (.cells #[] 64)) w.heap.size 64 4 (some ⟨w2.heap.size, 0, none⟩) 0 0 (msgs []))
      have ra : World.cell? _ ⟨w.heap.size + 1 + 1, 0, none⟩ = some (.slice none 0 0) := ZZ.out.get 0 rfl
      have rb : World.cell? _ ⟨w.heap.size + 1 + 1, 1, none⟩ = some (.slice none 0 0) := ZZ.out.get 1 rfl
      refine bodyPost_ret (v := .tuple #[.agg #[.slice none 0 0, .slice none 0 0], .slice (some ⟨w2.heap.size, 0, none⟩) 0 0, .int .i64 3]) (by simp [results, Try.results17, go_sem, ra, rb]) rfl ?_
      exact ⟨none, 0, 0, none, 0, 0, _, 0, 0, by rw [HE.out], by rw [HE.out]; rfl, by rw [HE.out]; rfl, by rw [HE.out]; rfl, by rw [HE.out]; exact Own.nil _ _ _ _, by rw [HE.out]; exact Own.nil _ _ _ _, by rw [HE.out]; exact ms.out, BB.out⟩
    | true =>
      have hyl := Y2.out.lt
      have hxl := X2.out.lt
      have y0 : w2.cell? ⟨w.heap.size + 1, 0, none⟩ = some (.int .i64 g0) := Y2.out.get 0 rfl
      have y1 : w2.cell? ⟨w.heap.size + 1, 1, none⟩ = some (.int .i64 g1) := Y2.out.get 1 rfl
      have y2 : w2.cell? ⟨w.heap.size + 1, 2, none⟩ = some (.int .i64 g2) := Y2.out.get 2 rfl
      have y3 : w2.cell? ⟨w.heap.size + 1, 3, none⟩ = some (.bool g3) := Y2.out.get 3 rfl
      have y4 : w2.cell? ⟨w.heap.size + 1, 4, none⟩ = some (.bool g4) := Y2.out.get 4 rfl
      have y5 : w2.cell? ⟨w.heap.size + 1, 5, none⟩ = some (.bool g5) := Y2.out.get 5 rfl
      have y6 : w2.cell? ⟨w.heap.size + 1, 6, none⟩ = some (.string g6) := Y2.out.get 6 rfl
      have x0 : w2.cell? ⟨w.heap.size, 0, none⟩ = some (.slice A n c) := X2.out.get 0 rfl
      have x1 : w2.cell? ⟨w.heap.size, 1, none⟩ = some (.slice A2 m d) := X2.out.get 1 rfl
      by_cases hst : (n : Int) ≤ g1
      · skip
        clear x1 y0 y2 y3 y4 y5 y6
        have HE := Lib.hid (HR.out.symm.trans (add_bad (fun h => by have := h.2.2; rw [HN.out] at this; change g1 < (n : Int) at this; omega)))
        clear HR
        have za0 : w2.cell? ⟨w.heap.size + 2, 0, none⟩ = some (.slice none 0 0) := Z2.out.get 0 rfl
        have za1 : w2.cell? ⟨w.heap.size + 2, 1, none⟩ = some (.slice none 0 0) := Z2.out.get 1 rfl
        have zf0 := Z2.out.frozen 0
        have zf1 := Z2.out.frozen 1
        have hzl := Z2.out.lt
        go_wp2
        have ZZ := Lib.hid (by have h := ((Z2.out.set_ 0 (.slice none 0 0)).set_ 1 (.slice none 0 0)).alloc (.cells #[] 64); exact h : Blk (((w2.setCell ⟨w.heap.size + 1 + 1, 0, none⟩ (.slice none 0 0)).setCell ⟨w.heap.size + 1 + 1, 1, none⟩ (.slice none 0 0)).alloc (.cells #[] 64)) (w.heap.size + 1 + 1) #[.slice none 0 0, .slice none 0 0] 41)
        have BB := Lib.hid (((B2.out.setCell (p := ⟨w.heap.size + 1 + 1, 0, none⟩) (by show _ ≤ _ + _; omega) (.slice none 0 0)).setCell (p := ⟨w.heap.size + 1 + 1, 1, none⟩) (by show _ ≤ _ + _; omega) (.slice none 0 0)).alloc (by simp [World.setCell]; omega) (.cells #[] 64))
        have ms := Lib.hid (by have h := (Own.made ((w2.setCell ⟨w.heap.size + 1 + 1, 0, none⟩ (.slice none 0 0)).setCell ⟨w.heap.size + 1 + 1, 1, none⟩ (.slice none 0 0)) ((w2.setCell ⟨w.heap.size + 1 + 1, 0, none⟩ (.slice none 0 0)).setCell ⟨w.heap.size + 1 + 1, 1, none⟩ (.slice none 0 0)).heap.size 64 4 #[] 0 (Nat.le_refl _) (by unfold maxLen; omega) rfl).lower (b := w.heap.size) (by simp [World.setCell]; omega); rw [(by simp [World.setCell] : ((w2.setCell ⟨w.heap.size + 1 + 1, 0, none⟩ (.slice none 0 0)).setCell ⟨w.heap.size + 1 + 1, 1, none⟩ (.slice none 0 0)).heap.size = w2.heap.size)] at h; exact h : Own (((w2.setCell ⟨w.heap.size + 1 + 1, 0, none⟩ (.slice none 0 0)).setCell ⟨w.heap.size + 1 + 1, 1, none⟩ (.slice none 0 0)).alloc (.cells #[] 64)) w.heap.size 64 4 (some ⟨w2.heap.size, 0, none⟩) 0 0 (msgs []))
        have ra : World.cell? _ ⟨w.heap.size + 1 + 1, 0, none⟩ = some (.slice none 0 0) := ZZ.out.get 0 rfl
        have rb : World.cell? _ ⟨w.heap.size + 1 + 1, 1, none⟩ = some (.slice none 0 0) := ZZ.out.get 1 rfl
        refine bodyPost_ret (v := .tuple #[.agg #[.slice none 0 0, .slice none 0 0], .slice (some ⟨w2.heap.size, 0, none⟩) 0 0, .int .i64 3]) (by simp [results, Try.results17, go_sem, ra, rb]) rfl ?_
        exact ⟨none, 0, 0, none, 0, 0, _, 0, 0, by rw [HE.out], by rw [HE.out]; rfl, by rw [HE.out]; rfl, by rw [HE.out]; rfl, by rw [HE.out]; exact Own.nil _ _ _ _, by rw [HE.out]; exact Own.nil _ _ _ _, by rw [HE.out]; exact ms.out, BB.out⟩
      have HC := Lib.hid (⟨HV.out, HV2.out, by rw [HN.out]; show g1 < (n : Int); omega⟩ : asmB zs ps = true ∧ datB ⟨g0, g1, g2, g3, g4, g5, g6⟩ = true ∧ (⟨g0, g1, g2, g3, g4, g5, g6⟩ : Dat).stream < zs.length)
      have hb2 := B2.out.size
      have hn4 : n ≤ 4 := by rw [← HN.out]; exact (asm_true HV.out).1.2
      have hm12 : m ≤ 12 := by rw [← HM.out]; exact (asm_true HV.out).2.1
      go_wp2
      refine copyS _ _ w.heap.size A n c zs A2 m d ps (by show 38 < 82; decide) rfl X2.out.lt x0 x1 ((HS.out.below B2.out (Nat.le_refl _)).more hb2) ((HP.out.below B2.out (Nat.le_refl _)).more hb2) HN.out HM.out (by omega) (by omega) ?_
      intro v0 v1 v2 v4 v5 v6 v8 A3 c3 A5 c5 h w3 o3 o5 hbh qh b3
      have B3 := Lib.hid (bstep B2.out b3 hb2)
      have X3 := Lib.hid (X2.out.below b3 X2.out.lt)
      have Y3 := Lib.hid (Y2.out.below b3 Y2.out.lt)
      have Z3 := Lib.hid (Z2.out.below b3 Z2.out.lt)
      have H3 := Lib.hid qh
      have O3 := Lib.hid (o3.lower (b := w.heap.size + 3) (by omega))
      have O5 := Lib.hid (o5.lower (b := w.heap.size + 3) (by omega))
      have hh3 : w.heap.size + 3 ≤ h := by omega
      have hb3 := b3.size
      clear b3 o3 o5 qh hbh x0 x1 y0 y1 y2 y3 y4 y5 y6 hyl hxl
      clear B2 X2 Y2 Z2
      simp only [Act.put, List.setIfInBounds_toArray, List.set_cons_zero, List.set_cons_succ]
      obtain ⟨r0, hr0⟩ : ∃ q, atK g0 ps 0 = q := ⟨_, rfl⟩
      have HA := Lib.hid hr0
      clear hr0
      have y0 := Y3.out.get 0 rfl
      have hyl := Y3.out.lt
      have k0 := H3.out.get 0 rfl
      have k1 := H3.out.get 1 rfl
      have hhl := H3.out.lt
      have x1 := X3.out.get 1 rfl
      have hxl := X3.out.lt
      go_wp2_with fail
      refine (spart_eq HA.out _ ((HP.out.below B3.out (Nat.le_refl _)).more B3.out.size) HM.out (by omega)).mono ?_
      rintro e w4 ⟨rfl, b4⟩
      have hw3 := B3.out.size
      have B4 := Lib.hid (bstep B3.out b4 hw3)
      have X4 := Lib.hid (X3.out.below b4 X3.out.lt)
      have Y4 := Lib.hid (Y3.out.below b4 Y3.out.lt)
      have Z4 := Lib.hid (Z3.out.below b4 Z3.out.lt)
      have H4 := Lib.hid (H3.out.below b4 H3.out.lt)
      have P3 := Lib.hid (O3.out.below b4 (Nat.le_refl _))
      have P5 := Lib.hid (O5.out.below b4 (Nat.le_refl _))
      have hb4 := b4.size
      clear b4 y0 hyl k0 k1 hhl x1 hxl
      clear B3 X3 Y3 Z3 H3 O3 O5
      have k0 := H4.out.get 0 rfl
      have k1 := H4.out.get 1 rfl
      have hhl := H4.out.lt
      have za0 : w4.cell? ⟨w.heap.size + 2, 0, none⟩ = some (.slice none 0 0) := Z4.out.get 0 rfl
      have za1 : w4.cell? ⟨w.heap.size + 2, 1, none⟩ = some (.slice none 0 0) := Z4.out.get 1 rfl
      have zf0 := Z4.out.frozen 0
      have zf1 := Z4.out.frozen 1
      have hzl := Z4.out.lt
      have x1 := X4.out.get 1 rfl
      have hxl := X4.out.lt
      have hw4 := B4.out.size
      by_cases hr0 : 0 ≤ r0
      · skip
        have HE := Lib.hid (HR.out.symm.trans (add_twice HC.out (by show 0 ≤ atK g0 ps 0; rw [HA.out]; exact hr0)))
        clear HR
        go_wp2
        have ZZ := Lib.hid (by have h := ((Z4.out.set_ 0 (.slice A3 n c3)).set_ 1 (.slice A5 m c5)).alloc (.cells #[] 64); exact h : Blk (((w4.setCell ⟨w.heap.size + 1 + 1, 0, none⟩ (.slice A3 n c3)).setCell ⟨w.heap.size + 1 + 1, 1, none⟩ (.slice A5 m c5)).alloc (.cells #[] 64)) (w.heap.size + 1 + 1) #[.slice A3 n c3, .slice A5 m c5] 41)
        have BB := Lib.hid (((B4.out.setCell (p := ⟨w.heap.size + 1 + 1, 0, none⟩) (by show _ ≤ _ + _; omega) (.slice A3 n c3)).setCell (p := ⟨w.heap.size + 1 + 1, 1, none⟩) (by show _ ≤ _ + _; omega) (.slice A5 m c5)).alloc (by simp [World.setCell]; omega) (.cells #[] 64))
        have ms := Lib.hid (by have h := (Own.made ((w4.setCell ⟨w.heap.size + 1 + 1, 0, none⟩ (.slice A3 n c3)).setCell ⟨w.heap.size + 1 + 1, 1, none⟩ (.slice A5 m c5)) ((w4.setCell ⟨w.heap.size + 1 + 1, 0, none⟩ (.slice A3 n c3)).setCell ⟨w.heap.size + 1 + 1, 1, none⟩ (.slice A5 m c5)).heap.size 64 4 #[] 0 (Nat.le_refl _) (by unfold maxLen; omega) rfl).lower (b := w.heap.size) (by simp [World.setCell]; omega); rw [(by simp [World.setCell] : ((w4.setCell ⟨w.heap.size + 1 + 1, 0, none⟩ (.slice A3 n c3)).setCell ⟨w.heap.size + 1 + 1, 1, none⟩ (.slice A5 m c5)).heap.size = w4.heap.size)] at h; exact h : Own (((w4.setCell ⟨w.heap.size + 1 + 1, 0, none⟩ (.slice A3 n c3)).setCell ⟨w.heap.size + 1 + 1, 1, none⟩ (.slice A5 m c5)).alloc (.cells #[] 64)) w.heap.size 64 4 (some ⟨w4.heap.size, 0, none⟩) 0 0 (msgs []))
        have R3 := Lib.hid (((P3.out.setLow (p := ⟨w.heap.size + 1 + 1, 0, none⟩) (by show _ + _ < _ + _; omega) (.slice A3 n c3)).setLow (p := ⟨w.heap.size + 1 + 1, 1, none⟩) (by show _ + _ < _ + _; omega) (.slice A5 m c5)).alloc (.cells #[] 64) |>.lower (b := w.heap.size) (by omega))
        have R5 := Lib.hid (((P5.out.setLow (p := ⟨w.heap.size + 1 + 1, 0, none⟩) (by show _ + _ < _ + _; omega) (.slice A3 n c3)).setLow (p := ⟨w.heap.size + 1 + 1, 1, none⟩) (by show _ + _ < _ + _; omega) (.slice A5 m c5)).alloc (.cells #[] 64) |>.lower (b := w.heap.size) (by omega))
        have ra : World.cell? _ ⟨w.heap.size + 1 + 1, 0, none⟩ = some (.slice A3 n c3) := ZZ.out.get 0 rfl
        have rb : World.cell? _ ⟨w.heap.size + 1 + 1, 1, none⟩ = some (.slice A5 m c5) := ZZ.out.get 1 rfl
        refine bodyPost_ret (v := .tuple #[.agg #[.slice A3 n c3, .slice A5 m c5], .slice (some ⟨w4.heap.size, 0, none⟩) 0 0, .int .i64 1]) (by simp [results, Try.results17, go_sem, ra, rb]) rfl ?_
        exact ⟨A3, n, c3, A5, m, c5, _, 0, 0, by rw [HE.out], by rw [HE.out]; exact HN.out, by rw [HE.out]; exact HM.out, by rw [HE.out]; rfl, by rw [HE.out]; exact R3.out, by rw [HE.out]; exact R5.out, by rw [HE.out]; exact ms.out, BB.out⟩
      by_cases hf : 12 ≤ m
      · have hf' : (12 : Int) ≤ (m : Int) := by omega
        have HE := Lib.hid (HR.out.symm.trans (add_full HC.out (by show ¬ 0 ≤ atK g0 ps 0; rw [HA.out]; exact hr0) (by rw [HM.out]; exact hf)))
        clear HR
        go_wp2
        have ZZ := Lib.hid (by have h := ((Z4.out.set_ 0 (.slice A3 n c3)).set_ 1 (.slice A5 m c5)).alloc (.cells #[] 64); exact h : Blk (((w4.setCell ⟨w.heap.size + 1 + 1, 0, none⟩ (.slice A3 n c3)).setCell ⟨w.heap.size + 1 + 1, 1, none⟩ (.slice A5 m c5)).alloc (.cells #[] 64)) (w.heap.size + 1 + 1) #[.slice A3 n c3, .slice A5 m c5] 41)
        have BB := Lib.hid (((B4.out.setCell (p := ⟨w.heap.size + 1 + 1, 0, none⟩) (by show _ ≤ _ + _; omega) (.slice A3 n c3)).setCell (p := ⟨w.heap.size + 1 + 1, 1, none⟩) (by show _ ≤ _ + _; omega) (.slice A5 m c5)).alloc (by simp [World.setCell]; omega) (.cells #[] 64))
        have ms := Lib.hid (by have h := (Own.made ((w4.setCell ⟨w.heap.size + 1 + 1, 0, none⟩ (.slice A3 n c3)).setCell ⟨w.heap.size + 1 + 1, 1, none⟩ (.slice A5 m c5)) ((w4.setCell ⟨w.heap.size + 1 + 1, 0, none⟩ (.slice A3 n c3)).setCell ⟨w.heap.size + 1 + 1, 1, none⟩ (.slice A5 m c5)).heap.size 64 4 #[] 0 (Nat.le_refl _) (by unfold maxLen; omega) rfl).lower (b := w.heap.size) (by simp [World.setCell]; omega); rw [(by simp [World.setCell] : ((w4.setCell ⟨w.heap.size + 1 + 1, 0, none⟩ (.slice A3 n c3)).setCell ⟨w.heap.size + 1 + 1, 1, none⟩ (.slice A5 m c5)).heap.size = w4.heap.size)] at h; exact h : Own (((w4.setCell ⟨w.heap.size + 1 + 1, 0, none⟩ (.slice A3 n c3)).setCell ⟨w.heap.size + 1 + 1, 1, none⟩ (.slice A5 m c5)).alloc (.cells #[] 64)) w.heap.size 64 4 (some ⟨w4.heap.size, 0, none⟩) 0 0 (msgs []))
        have R3 := Lib.hid (((P3.out.setLow (p := ⟨w.heap.size + 1 + 1, 0, none⟩) (by show _ + _ < _ + _; omega) (.slice A3 n c3)).setLow (p := ⟨w.heap.size + 1 + 1, 1, none⟩) (by show _ + _ < _ + _; omega) (.slice A5 m c5)).alloc (.cells #[] 64) |>.lower (b := w.heap.size) (by omega))
        have R5 := Lib.hid (((P5.out.setLow (p := ⟨w.heap.size + 1 + 1, 0, none⟩) (by show _ + _ < _ + _; omega) (.slice A3 n c3)).setLow (p := ⟨w.heap.size + 1 + 1, 1, none⟩) (by show _ + _ < _ + _; omega) (.slice A5 m c5)).alloc (.cells #[] 64) |>.lower (b := w.heap.size) (by omega))
        have ra : World.cell? _ ⟨w.heap.size + 1 + 1, 0, none⟩ = some (.slice A3 n c3) := ZZ.out.get 0 rfl
        have rb : World.cell? _ ⟨w.heap.size + 1 + 1, 1, none⟩ = some (.slice A5 m c5) := ZZ.out.get 1 rfl
        refine bodyPost_ret (v := .tuple #[.agg #[.slice A3 n c3, .slice A5 m c5], .slice (some ⟨w4.heap.size, 0, none⟩) 0 0, .int .i64 2]) (by simp [results, Try.results17, go_sem, ra, rb]) rfl ?_
        exact ⟨A3, n, c3, A5, m, c5, _, 0, 0, by rw [HE.out], by rw [HE.out]; exact HN.out, by rw [HE.out]; exact HM.out, by rw [HE.out]; rfl, by rw [HE.out]; exact R3.out, by rw [HE.out]; exact R5.out, by rw [HE.out]; exact ms.out, BB.out⟩
      have hf' : ¬ (12 : Int) ≤ (m : Int) := by omega
      obtain ⟨rz, rp, rm, hrun⟩ : ∃ z p m, runA 14 zs (ps ++ [⟨g0, g1, g2, g3, g4, g5, g6⟩]) [] = (z, p, m) := ⟨_, _, _, rfl⟩
      have HE := Lib.hid (HR.out.symm.trans (add_done HC.out (by show ¬ 0 ≤ atK g0 ps 0; rw [HA.out]; exact hr0) (by rw [HM.out]; exact hf) hrun))
      have HRUN := Lib.hid hrun
      have HFIT := Lib.hid (fit_start HC.out)
      clear hrun HR za0 za1 zf0 zf1 hzl
      obtain ⟨j0, hj, hy0, hy1, hy2⟩ := info_parts info_data
      have y0 : w4.cell? ⟨w.heap.size + 1, 0, none⟩ = some (.int .i64 g0) := Y4.out.get 0 rfl
      have y1 : w4.cell? ⟨w.heap.size + 1, 1, none⟩ = some (.int .i64 g1) := Y4.out.get 1 rfl
      have y2 : w4.cell? ⟨w.heap.size + 1, 2, none⟩ = some (.int .i64 g2) := Y4.out.get 2 rfl
      have y3 : w4.cell? ⟨w.heap.size + 1, 3, none⟩ = some (.bool g3) := Y4.out.get 3 rfl
      have y4 : w4.cell? ⟨w.heap.size + 1, 4, none⟩ = some (.bool g4) := Y4.out.get 4 rfl
      have y5 : w4.cell? ⟨w.heap.size + 1, 5, none⟩ = some (.bool g5) := Y4.out.get 5 rfl
      have y6 : w4.cell? ⟨w.heap.size + 1, 6, none⟩ = some (.string g6) := Y4.out.get 6 rfl
      have hyl := Y4.out.lt
      have kf1 := H4.out.frozen 1
      go_wp2_with (at_builtin; refine wpList_app _ rfl _ _ _ rfl (w.heap.size + 3) 45 j0 (.agg #[.int .i64 0, .int .i64 0, .int .i64 0, .bool false, .bool false, .bool false, .string ⟨#[]⟩]) 7 48 Try.underlying26 hj hy0 hy1 hy2 rfl (by decide) A5 m c5 (dats ps) rfl (P5.out.alloc _) (w4.heap.size + 1) (some ⟨w4.heap.size, 0, none⟩) 1 1 (dats [⟨g0, g1, g2, g3, g4, g5, g6⟩]) rfl (sl_new rfl) rfl (dats_one _) (by unfold maxLen; omega) (by omega) (by simp; omega) ?_; intro A6 c6 row w5 o6 g5' r5 d5; rw [← dats_app] at o6; have O6 := Lib.hid o6; have Q3 := Lib.hid (own_held (P3.out.alloc _) (P5.out.alloc _) (by decide) g5' r5); have H5 := Lib.hid (blk_held (H4.out.alloc _) (P5.out.alloc _) (by decide) g5' r5); have Z5 := Lib.hid (blk_at (Z4.out.alloc _) g5' r5 (fun a ha => by have := (P5.out.blk a ha).1; omega)); have B5 := Lib.hid (below_at (B4.out.alloc hw4 _) (by simp; omega) g5' r5 (fun a ha => by have := (P5.out.blk a ha).1; omega)); have k0' : w5.cell? ⟨h, 0, none⟩ = some (.slice A3 n c3) := H5.out.get 0 rfl; have k1' : w5.cell? ⟨h, 1, none⟩ = some (.slice A5 m c5) := H5.out.get 1 rfl; have kf1' := H5.out.frozen 1; have hhl5 := H5.out.lt; clear o6 g5' r5 d5)
      obtain ⟨W, hW⟩ : ∃ W, W = (w5.setCell ⟨h, 1, none⟩ (.slice A6 (m + 1) c6)).alloc (.cells #[] 64) := ⟨_, rfl⟩
      have hw5 := B5.out.size
      have LL := Lib.hid (by rw [hW]; exact ⟨(by have h := (H5.out.set_ 1 (.slice A6 (m + 1) c6)).alloc (.cells #[] 64); exact h), (Z5.out.far (p := ⟨h, 1, none⟩) (by show _ + _ ≠ h; omega) _).alloc _, (own_far Q3.out H5.out (by decide) 1 _).alloc _, (own_far O6.out H5.out (by decide) 1 _).alloc _, (by have k := (Own.made (w5.setCell ⟨h, 1, none⟩ (.slice A6 (m + 1) c6)) (w.heap.size + 3) 64 4 #[] 0 (by simp [World.setCell]; omega) (by unfold maxLen; omega) rfl); rw [(by simp [World.setCell] : (w5.setCell ⟨h, 1, none⟩ (.slice A6 (m + 1) c6)).heap.size = w5.heap.size)] at k; exact k), (B5.out.setCell (by show _ ≤ h; omega) _).alloc (by simp [World.setCell]; omega) _⟩ : AdL w W h A3 n c3 zs A6 (m + 1) c6 (ps ++ [⟨g0, g1, g2, g3, g4, g5, g6⟩]) (some ⟨w5.heap.size, 0, none⟩) 0 0 [])
      rw [← hW]
      clear hW H5 Z5 Q3 O6 B5 k0' k1' kf1' hhl5 hw5
      obtain ⟨R0, hR0⟩ : ∃ R, dueP zs (ps ++ [⟨g0, g1, g2, g3, g4, g5, g6⟩]) = R := ⟨_, rfl⟩
      have hlen : (ps ++ [(⟨g0, g1, g2, g3, g4, g5, g6⟩ : Dat)]).length = m + 1 := by rw [List.length_append, HM.out]; rfl
      refine (sdue A3 n c3 zs A6 (m + 1) c6 (ps ++ [⟨g0, g1, g2, g3, g4, g5, g6⟩]) hR0 W LL.out.i.sl LL.out.p.sl HN.out hlen HFIT.out (by omega)).mono ?_
      rintro e w7 ⟨Ac, qc, cc, rfl, hqc, hnl, oc, b7⟩
      have L7 := Lib.hid (LL.out.below b7)
      have OC := Lib.hid (oc.lower LL.out.lt)
      have HQC := Lib.hid hqc
      have HR0 := Lib.hid hR0
      have HLEN := Lib.hid hlen
      clear oc b7 hqc hR0 hlen hnl LL
      clear y0 y1 y2 y3 y4 y5 y6 hyl kf1 k0 k1 hhl
      go_wp2
      go_loopw [8, 9] (fun sv cv wr => ∃ (f : Nat) (nx : List Int) (l : List Dat) (ms : List Msg) (A3 : Option Addr) (c3 : Nat) (A5 : Option Addr) (m5 c5 : Nat) (As : Option Addr) (q cs : Nat) (R : List Nat) (Ac : Option Addr) (qc cc : Nat), sv = .slice As q cs ∧ cv = .slice Ac qc cc ∧ m5 < f ∧ q + f = 14 ∧ Hid (nx.length = n) ∧ Hid (l.length = m5) ∧ Hid (ms.length = q) ∧ Hid (R.length = qc) ∧ Hid (Fit nx l) ∧ Hid (dueP nx l = R) ∧ Hid (runA f nx l ms = (rz, rp, rm)) ∧ AdL w wr h A3 n c3 nx A5 m5 c5 l As q cs ms ∧ Own wr (w.heap.size + 3) 3 1 Ac qc cc (nats R)) (fun sv _ _ => 14 - lenOf sv)
      case atStart => exact ⟨14, zs, _, [], A3, c3, A6, m + 1, c6, _, 0, 0, R0, Ac, qc, cc, rfl, rfl, by omega, by omega, HN, HLEN, Lib.hid rfl, HQC, HFIT, HR0, HRUN, L7.out, OC.out⟩
      case round =>
        clear L7 OC HQC HR0 HLEN HFIT HRUN
        obtain ⟨f, nx, l, ms, A3, c3, A5, m5, c5, As, q, cs, R, Ac, qc, cc, rfl, rfl, hmf, hqf, hnx, hlm, hmq, hRq, hF, hD, hrun, hL, hO⟩ := hrel
        have L := Lib.hid hL
        have O := Lib.hid hO
        clear hL hO
        have hlw := L.out.lt
        have k0 : wr.cell? ⟨h, 0, none⟩ = some (.slice A3 n c3) := L.out.h.get 0 rfl
        have k1 : wr.cell? ⟨h, 1, none⟩ = some (.slice A5 m5 c5) := L.out.h.get 1 rfl
        have hhl := L.out.h.lt
        obtain ⟨f, rfl⟩ : ∃ g, f = g + 1 := ⟨f - 1, by omega⟩
        by_cases hq0 : qc = 0
        · skip
          have hR0 : R = [] := List.eq_nil_of_length_eq_zero (by rw [hRq.out, hq0])
          have HX := Lib.hid (hrun.out.symm.trans (run_end (by rw [hD.out, hR0])))
          have HE2 := Lib.hid (HE.out.trans (by have h := HX.out; simp only [Prod.mk.injEq] at h; rw [h.1, h.2.1, h.2.2] : (⟨rz, rp, rm, 0⟩ : Added) = ⟨nx, l, ms, 0⟩))
          clear HE HX
          subst hq0
          have za0 : wr.cell? ⟨w.heap.size + 2, 0, none⟩ = some (.slice none 0 0) := L.out.z.get 0 rfl
          have za1 : wr.cell? ⟨w.heap.size + 2, 1, none⟩ = some (.slice none 0 0) := L.out.z.get 1 rfl
          have zf0 := L.out.z.frozen 0
          have zf1 := L.out.z.frozen 1
          have hzl := L.out.z.lt
          go_wp2
          have ZZ := Lib.hid (by have h := ((L.out.z.set_ 0 (.slice A3 n c3)).set_ 1 (.slice A5 m5 c5)); exact h : Blk ((wr.setCell ⟨w.heap.size + 1 + 1, 0, none⟩ (.slice A3 n c3)).setCell ⟨w.heap.size + 1 + 1, 1, none⟩ (.slice A5 m5 c5)) (w.heap.size + 1 + 1) #[.slice A3 n c3, .slice A5 m5 c5] 41)
          have BB := Lib.hid ((L.out.b.setCell (p := ⟨w.heap.size + 1 + 1, 0, none⟩) (by show _ ≤ _ + _; omega) (.slice A3 n c3)).setCell (p := ⟨w.heap.size + 1 + 1, 1, none⟩) (by show _ ≤ _ + _; omega) (.slice A5 m5 c5))
          have Ri := Lib.hid (((L.out.i.setLow (p := ⟨w.heap.size + 1 + 1, 0, none⟩) (by show _ + _ < _ + _; omega) (.slice A3 n c3)).setLow (p := ⟨w.heap.size + 1 + 1, 1, none⟩) (by show _ + _ < _ + _; omega) (.slice A5 m5 c5)) |>.lower (b := w.heap.size) (by omega))
          have Rp := Lib.hid (((L.out.p.setLow (p := ⟨w.heap.size + 1 + 1, 0, none⟩) (by show _ + _ < _ + _; omega) (.slice A3 n c3)).setLow (p := ⟨w.heap.size + 1 + 1, 1, none⟩) (by show _ + _ < _ + _; omega) (.slice A5 m5 c5)) |>.lower (b := w.heap.size) (by omega))
          have Rs := Lib.hid (((L.out.s.setLow (p := ⟨w.heap.size + 1 + 1, 0, none⟩) (by show _ + _ < _ + _; omega) (.slice A3 n c3)).setLow (p := ⟨w.heap.size + 1 + 1, 1, none⟩) (by show _ + _ < _ + _; omega) (.slice A5 m5 c5)) |>.lower (b := w.heap.size) (by omega))
          have ra : World.cell? _ ⟨w.heap.size + 1 + 1, 0, none⟩ = some (.slice A3 n c3) := ZZ.out.get 0 rfl
          have rb : World.cell? _ ⟨w.heap.size + 1 + 1, 1, none⟩ = some (.slice A5 m5 c5) := ZZ.out.get 1 rfl
          refine bodyPost_ret (v := .tuple #[.agg #[.slice A3 n c3, .slice A5 m5 c5], .slice As q cs, .int .i64 0]) (by simp [results, Try.results17, go_sem, ra, rb]) rfl ?_
          exact ⟨A3, n, c3, A5, m5, c5, As, q, cs, by rw [HE2.out], by rw [HE2.out]; exact hnx.out, by rw [HE2.out]; exact hlm.out, by rw [HE2.out]; exact hmq.out, by rw [HE2.out]; exact Ri.out, by rw [HE2.out]; exact Rp.out, by rw [HE2.out]; exact Rs.out, BB.out⟩
        have hq1 : (0 : Int) < (qc : Int) := by omega
        obtain ⟨x, c, hxc⟩ := chainAt hRq.out hq0
        subst hxc
        obtain ⟨dd, hx, hall, h13⟩ := due_at hF.out hD.out
        rw [hRq.out] at h13
        go_wp2_with fail
        refine (stake A3 n c3 nx A5 m5 c5 l x c Ac qc cc wr L.out.i.sl L.out.p.sl O.out.sl hnx.out hlm.out hRq.out hF.out (by omega) hx hall h13).mono ?_
        rintro e w8 ⟨A7, n7, c7, A8, m8, c8, rfl, hl8, hn8, o7, o8, b8⟩
        have hn7 : n = n7 := by rw [← hn8, nextA_len]; exact hnx.out.symm
        subst hn7
        have hw8 : wr.heap.size ≤ w8.heap.size := b8.size
        have L8 := Lib.hid (L.out.below b8)
        have O7 := Lib.hid (o7.lower hlw)
        have O8 := Lib.hid (o8.lower hlw)
        have HL8 := Lib.hid hl8
        have HN8 := Lib.hid hn8
        have HXX := Lib.hid hx
        clear o7 o8 b8 hl8 hn8 hx hall L O k0 k1 hhl
        have k0 : w8.cell? ⟨h, 0, none⟩ = some (.slice A3 n c3) := L8.out.h.get 0 rfl
        have k1 : w8.cell? ⟨h, 1, none⟩ = some (.slice A5 m5 c5) := L8.out.h.get 1 rfl
        have kf0 := L8.out.h.frozen 0
        have kf1 := L8.out.h.frozen 1
        have hhl := L8.out.h.lt
        obtain ⟨e0, e1, e2, e3, e4, e5, e6⟩ := dd
        obtain ⟨T, hT⟩ : ∃ T, textA l (x :: c) ⟨#[]⟩ = T := ⟨_, rfl⟩
        have HT := Lib.hid hT
        dsimp only
        rw [hT]
        clear hT
        obtain ⟨j0, hj, hy0, hy1, hy2⟩ := info_parts info_msg
        have hmc : m8 ≤ 13 := by have := rest_less (c := c) HXX.out; rw [HL8.out, hlm.out] at this; omega
        have hWB : ((((w8.setCell ⟨h, 0, none⟩ (.slice A7 n c7)).setCell ⟨h, 1, none⟩ (.slice A8 m8 c8)).alloc (.cells #[.slice A7 n c7, .slice A8 m8 c8] 41)).alloc (.cells #[.int .i64 e1, .int .i64 e2, .bool e5, .string T] 64)).heap.size = w8.heap.size + 1 + 1 := by simp [World.setCell]
        have L9 := Lib.hid (((L8.out.swap O7.out O8.out hh3).alloc (.cells #[.slice A7 n c7, .slice A8 m8 c8] 41)).alloc (.cells #[.int .i64 e1, .int .i64 e2, .bool e5, .string T] 64) |>.alloc (.cells #[.int .i64 e1, .int .i64 e2, .bool e5, .string T] 64))
        have hsl := Lib.hid (by have h := sl_new (w := ((((w8.setCell ⟨h, 0, none⟩ (.slice A7 n c7)).setCell ⟨h, 1, none⟩ (.slice A8 m8 c8)).alloc (.cells #[.slice A7 n c7, .slice A8 m8 c8] 41)).alloc (.cells #[.int .i64 e1, .int .i64 e2, .bool e5, .string T] 64))) (cs := #[.int .i64 e1, .int .i64 e2, .bool e5, .string T]) (t := 64) (xs := msgs [⟨e1, e2, e5, T⟩]) rfl; rw [hWB] at h; exact h : Sl (((((w8.setCell ⟨h, 0, none⟩ (.slice A7 n c7)).setCell ⟨h, 1, none⟩ (.slice A8 m8 c8)).alloc (.cells #[.slice A7 n c7, .slice A8 m8 c8] 41)).alloc (.cells #[.int .i64 e1, .int .i64 e2, .bool e5, .string T] 64)).alloc (.cells #[.int .i64 e1, .int .i64 e2, .bool e5, .string T] 64)) (w8.heap.size + 1 + 1 + 1) (some ⟨w8.heap.size + 1 + 1, 0, none⟩) (msgs [⟨e1, e2, e5, T⟩]))
        clear hWB
        go_wp2_with (at_builtin; refine wpList_app _ rfl _ _ _ rfl (w.heap.size + 3) 64 j0 (.agg #[.int .i64 0, .int .i64 0, .bool false, .string ⟨#[]⟩]) 4 40 Try.underlying24 hj hy0 hy1 hy2 rfl (by decide) As q cs (msgs ms) rfl L9.out.s (w8.heap.size + 1 + 1 + 1) (some ⟨w8.heap.size + 1 + 1, 0, none⟩) 1 1 (msgs [⟨e1, e2, e5, T⟩]) rfl hsl.out rfl (msgs_one _) (by unfold maxLen; omega) (by omega) (by simp [World.setCell]; omega) ?_; intro As2 cs2 row w9 o9 g9 r9 d9; rw [← msgs_app] at o9; have L10 := Lib.hid (L9.out.said g9 r9 o9); clear o9 g9 r9 d9; have k0' : w9.cell? ⟨h, 0, none⟩ = some (.slice A7 n c7) := L10.out.h.get 0 rfl; have k1' : w9.cell? ⟨h, 1, none⟩ = some (.slice A8 m8 c8) := L10.out.h.get 1 rfl; have hhl9 := L10.out.h.lt)
        obtain ⟨R2, hR2⟩ : ∃ R, dueP (nextA nx ⟨e0, e1, e2, e3, e4, e5, e6⟩) (restA (x :: c) l 0) = R := ⟨_, rfl⟩
        have hFs := fit_step hF.out (x :: c) ⟨e0, e1, e2, e3, e4, e5, e6⟩
        refine (sdue A7 n c7 _ A8 m8 c8 _ hR2 w9 L10.out.i.sl L10.out.p.sl HN8.out HL8.out hFs (by omega)).mono ?_
        rintro e w10 ⟨Ad, qd, cd, rfl, hqd, hnl, od, b10⟩
        have L11 := Lib.hid (L10.out.below b10)
        have OD := Lib.hid (od.lower L10.out.lt)
        have HR2 := Lib.hid hR2
        have HQD := Lib.hid hqd
        have HFS := Lib.hid hFs
        clear od b10 hR2 hqd hnl hFs k0' k1' k0 k1 kf0 kf1
        have hlt := rest_less (c := c) HXX.out
        rw [HL8.out, hlm.out] at hlt
        have HRN := Lib.hid (by have h := (run_step (f := f) (said := ms) hD.out HXX.out).symm.trans hrun.out; rw [(by unfold msgA; rw [HT.out] : msgA l ⟨e0, e1, e2, e3, e4, e5, e6⟩ (x :: c) = ⟨e1, e2, e5, T⟩)] at h; exact h : runA f (nextA nx ⟨e0, e1, e2, e3, e4, e5, e6⟩) (restA (x :: c) l 0) (ms ++ [⟨e1, e2, e5, T⟩]) = (rz, rp, rm))
        go_wp2
        go_roundw
        case rel => exact ⟨f, _, _, _, A7, c7, A8, m8, c8, As2, q + 1, cs2, R2, Ad, qd, cd, rfl, rfl, by omega, by omega, HN8, HL8, Lib.hid (by rw [List.length_append, hmq.out]; rfl), HQD, HFS, HR2, HRN, L11.out, OD.out⟩
        case measure => simp [lenOf]; omega
end Go.Proofs.Ytkhaodbcnnlhaaa
