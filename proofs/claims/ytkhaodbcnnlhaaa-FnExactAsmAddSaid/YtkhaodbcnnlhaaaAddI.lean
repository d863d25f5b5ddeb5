/-
  What AsmAdd of the program returns. Conditions: those that each theorem bears.
-/
import Derived.Test.YtkhaodbcnnlhaaaAddR
namespace Go.Proofs.Ytkhaodbcnnlhaaa
open Go.ChangeShapes Go.WideShapes Go.ChangeAt Go.RowKit
set_option linter.unusedVariables false
set_option linter.unusedSimpArgs false
set_option maxHeartbeats 25600000 in
set_option maxRecDepth 100000 in
theorem iasm_add (A : Option Addr) (n c : Nat) (zs : List Int) (A2 : Option Addr) (m d : Nat) (ps : List Dat) (g0 g1 g2 : Int) (g3 g4 g5 : Bool) (g6 : ByteArray) {r : Added} (hr : addA zs ps ⟨g0, g1, g2, g3, g4, g5, g6⟩ = r) (w : World) (hs : Sl w w.heap.size A (ints zs)) (hp : Sl w w.heap.size A2 (dats ps)) (hn : zs.length = n) (hm : ps.length = m) (hn2 : n ≤ 9223372036854775807) (hmd : m ≤ d) (hd2 : d ≤ 9223372036854775807) (ht : Dats ps) (hg : g6.size ≤ 9223372036854775807) :
    Calls Try.prog 20 #[.agg #[.slice A n c, .slice A2 m d], .agg #[.int .i64 g0, .int .i64 g1, .int .i64 g2, .bool g3, .bool g4, .bool g5, .string g6]] w (AddP r w) := by
  have HS := Lib.hid hs; have HP := Lib.hid hp; have HN := Lib.hid hn; have HM := Lib.hid hm; have HT := Lib.hid ht; have HR := Lib.hid hr; clear hs hp hn hm ht hr
  obtain ⟨v, hv⟩ : ∃ v, asmB zs ps = v := ⟨_, rfl⟩
  have HV := Lib.hid hv
  have IV := fun w hs hp => iasm_valid A n c zs A2 m d ps w hs hp HN.out HM.out hn2 hmd hd2 HT.out
  rw [hv] at IV
  clear hv
  go_enter Try.func20, Try.ntmps20
  go_wp2_with fail
  refine (IV _ ((((HS.out.alloc (Nat.le_refl _) _).alloc (by simp) _).alloc (by simp; omega) _).more (by simp; omega)) ((((HP.out.alloc (Nat.le_refl _) _).alloc (by simp) _).alloc (by simp; omega) _).more (by simp; omega))).mono ?_
  rintro e w1 ⟨rfl, b1'⟩
  obtain ⟨q1, q2, q3, z1, b1⟩ := boxed3 b1'
  have B1 := Lib.hid b1
  have X1 := Lib.hid q1
  have Y1 := Lib.hid q2
  have Z1 := Lib.hid q3
  clear b1 b1' q1 q2 q3 IV
  have hb1 := B1.out.size
  cases v with
  | false =>
    have HE := Lib.hid (HR.out.symm.trans (add_bad (fun h => by have := h.1; rw [HV.out] at this; cases this)))
    clear HR
    have za0 : w1.cell? ⟨w.heap.size + 2, 0, none⟩ = some (.slice none 0 0) := Z1.out.get 0 rfl
    have za1 : w1.cell? ⟨w.heap.size + 2, 1, none⟩ = some (.slice none 0 0) := Z1.out.get 1 rfl
    have zf0 := Z1.out.frozen 0
    have zf1 := Z1.out.frozen 1
    have hzl := Z1.out.lt
    go_wp2
    have ZZ := Lib.hid (by have h := ((Z1.out.set_ 0 (.slice none 0 0)).set_ 1 (.slice none 0 0)); exact h : Blk ((w1.setCell ⟨w.heap.size + 1 + 1, 0, none⟩ (.slice none 0 0)).setCell ⟨w.heap.size + 1 + 1, 1, none⟩ (.slice none 0 0)) (w.heap.size + 1 + 1) #[.slice none 0 0, .slice none 0 0] 41)
    have BB := Lib.hid (((B1.out.setCell (p := ⟨w.heap.size + 1 + 1, 0, none⟩) (by show _ ≤ _ + _; omega) (.slice none 0 0)).setCell (p := ⟨w.heap.size + 1 + 1, 1, none⟩) (by show _ ≤ _ + _; omega) (.slice none 0 0)))
    have ms := Lib.hid (Own.nil _ _ _ _ : Own ((w1.setCell ⟨w.heap.size + 1 + 1, 0, none⟩ (.slice none 0 0)).setCell ⟨w.heap.size + 1 + 1, 1, none⟩ (.slice none 0 0)) w.heap.size 64 4 none 0 0 (msgs []))
    have ra : World.cell? _ ⟨w.heap.size + 1 + 1, 0, none⟩ = some (.slice none 0 0) := ZZ.out.get 0 rfl
    have rb : World.cell? _ ⟨w.heap.size + 1 + 1, 1, none⟩ = some (.slice none 0 0) := ZZ.out.get 1 rfl
    refine bodyPost_ret (v := .tuple #[.agg #[.slice none 0 0, .slice none 0 0], .slice none 0 0, .int .i64 3]) (by simp [results, Try.results20, go_sem, ra, rb]) rfl ?_
    exact ⟨none, 0, 0, none, 0, 0, _, 0, 0, by rw [HE.out], by rw [HE.out]; rfl, by rw [HE.out]; rfl, by rw [HE.out]; rfl, by rw [HE.out]; exact Own.nil _ _ _ _, by rw [HE.out]; exact Own.nil _ _ _ _, by rw [HE.out]; exact ms.out, BB.out⟩
  | true =>
    obtain ⟨v2, hv2⟩ : ∃ v, datB ⟨g0, g1, g2, g3, g4, g5, g6⟩ = v := ⟨_, rfl⟩
    have HV2 := Lib.hid hv2
    clear hv2
    have y0 : w1.cell? ⟨w.heap.size + 1, 0, none⟩ = some (.int .i64 g0) := Y1.out.get 0 rfl
    have y1 : w1.cell? ⟨w.heap.size + 1, 1, none⟩ = some (.int .i64 g1) := Y1.out.get 1 rfl
    have y2 : w1.cell? ⟨w.heap.size + 1, 2, none⟩ = some (.int .i64 g2) := Y1.out.get 2 rfl
    have y3 : w1.cell? ⟨w.heap.size + 1, 3, none⟩ = some (.bool g3) := Y1.out.get 3 rfl
    have y4 : w1.cell? ⟨w.heap.size + 1, 4, none⟩ = some (.bool g4) := Y1.out.get 4 rfl
    have y5 : w1.cell? ⟨w.heap.size + 1, 5, none⟩ = some (.bool g5) := Y1.out.get 5 rfl
    have y6 : w1.cell? ⟨w.heap.size + 1, 6, none⟩ = some (.string g6) := Y1.out.get 6 rfl
    have hyl := Y1.out.lt
    go_wp2_with fail
    refine (idata_eq HV2.out hg _).mono ?_
    rintro e w2 ⟨rfl, b2⟩
    have B2 := Lib.hid (bstep B1.out b2 hb1)
    have X2 := Lib.hid (X1.out.below b2 X1.out.lt)
    have Y2 := Lib.hid (Y1.out.below b2 Y1.out.lt)
    have Z2 := Lib.hid (Z1.out.below b2 Z1.out.lt)
    have z2 : w.heap.size + 2 < w2.heap.size := Z2.out.lt
    clear b2 y0 y1 y2 y3 y4 y5 y6 hyl
    clear B1 X1 Y1 Z1
    cases v2 with
    | false =>
      have HE := Lib.hid (HR.out.symm.trans (add_bad (fun h => by have := h.2.1; rw [HV2.out] at this; cases this)))
      clear HR
      have za0 : w2.cell? ⟨w.heap.size + 2, 0, none⟩ = some (.slice none 0 0) := Z2.out.get 0 rfl
      have za1 : w2.cell? ⟨w.heap.size + 2, 1, none⟩ = some (.slice none 0 0) := Z2.out.get 1 rfl
      have zf0 := Z2.out.frozen 0
      have zf1 := Z2.out.frozen 1
      have hzl := Z2.out.lt
      go_wp2
      have ZZ := Lib.hid (by have h := ((Z2.out.set_ 0 (.slice none 0 0)).set_ 1 (.slice none 0 0)); exact h : Blk ((w2.setCell ⟨w.heap.size + 1 + 1, 0, none⟩ (.slice none 0 0)).setCell ⟨w.heap.size + 1 + 1, 1, none⟩ (.slice none 0 0)) (w.heap.size + 1 + 1) #[.slice none 0 0, .slice none 0 0] 41)
      have BB := Lib.hid (((B2.out.setCell (p := ⟨w.heap.size + 1 + 1, 0, none⟩) (by show _ ≤ _ + _; omega) (.slice none 0 0)).setCell (p := ⟨w.heap.size + 1 + 1, 1, none⟩) (by show _ ≤ _ + _; omega) (.slice none 0 0)))
      have ms := Lib.hid (Own.nil _ _ _ _ : Own ((w2.setCell ⟨w.heap.size + 1 + 1, 0, none⟩ (.slice none 0 0)).setCell ⟨w.heap.size + 1 + 1, 1, none⟩ (.slice none 0 0)) w.heap.size 64 4 none 0 0 (msgs []))
      have ra : World.cell? _ ⟨w.heap.size + 1 + 1, 0, none⟩ = some (.slice none 0 0) := ZZ.out.get 0 rfl
      have rb : World.cell? _ ⟨w.heap.size + 1 + 1, 1, none⟩ = some (.slice none 0 0) := ZZ.out.get 1 rfl
      refine bodyPost_ret (v := .tuple #[.agg #[.slice none 0 0, .slice none 0 0], .slice none 0 0, .int .i64 3]) (by simp [results, Try.results20, go_sem, ra, rb]) rfl ?_
      exact ⟨none, 0, 0, none, 0, 0, _, 0, 0, by rw [HE.out], by rw [HE.out]; rfl, by rw [HE.out]; rfl, by rw [HE.out]; rfl, by rw [HE.out]; exact Own.nil _ _ _ _, by rw [HE.out]; exact Own.nil _ _ _ _, by rw [HE.out]; exact ms.out, BB.out⟩
    | true =>
      have hyl := Y2.out.lt
      have hxl := X2.out.lt
      have y0 : w2.cell? ⟨w.heap.size + 1, 0, none⟩ = some (.int .i64 g0) := Y2.out.get 0 rfl
      have y1 : w2.cell? ⟨w.heap.size + 1, 1, none⟩ = some (.int .i64 g1) := Y2.out.get 1 rfl
      have y2 : w2.cell? ⟨w.heap.size + 1, 2, none⟩ = some (.int .i64 g2) := Y2.out.get 2 rfl
      have y3 : w2.cell? ⟨w.heap.size + 1, 3, none⟩ = some (.bool g3) := Y2.out.get 3 rfl
      have y4 : w2.cell? ⟨w.heap.size + 1, 4, none⟩ = some (.bool g4) := Y2.out.get 4 rfl
      have y5 : w2.cell? ⟨w.heap.size + 1, 5, none⟩ = some (.bool g5) := Y2.out.get 5 rfl
      have y6 : w2.cell? ⟨w.heap.size + 1, 6, none⟩ = some (.string g6) := Y2.out.get 6 rfl
      have x0 : w2.cell? ⟨w.heap.size, 0, none⟩ = some (.slice A n c) := X2.out.get 0 rfl
      have x1 : w2.cell? ⟨w.heap.size, 1, none⟩ = some (.slice A2 m d) := X2.out.get 1 rfl
      by_cases hst : (n : Int) ≤ g1
      · skip
        clear x1 y0 y2 y3 y4 y5 y6
        have HE := Lib.hid (HR.out.symm.trans (add_bad (fun h => by have := h.2.2; rw [HN.out] at this; change g1 < (n : Int) at this; omega)))
        clear HR
        have za0 : w2.cell? ⟨w.heap.size + 2, 0, none⟩ = some (.slice none 0 0) := Z2.out.get 0 rfl
        have za1 : w2.cell? ⟨w.heap.size + 2, 1, none⟩ = some (.slice none 0 0) := Z2.out.get 1 rfl
        have zf0 := Z2.out.frozen 0
        have zf1 := Z2.out.frozen 1
        have hzl := Z2.out.lt
        go_wp2
        have ZZ := Lib.hid (by have h := ((Z2.out.set_ 0 (.slice none 0 0)).set_ 1 (.slice none 0 0)); exact h : Blk ((w2.setCell ⟨w.heap.size + 1 + 1, 0, none⟩ (.slice none 0 0)).setCell ⟨w.heap.size + 1 + 1, 1, none⟩ (.slice none 0 0)) (w.heap.size + 1 + 1) #[.slice none 0 0, .slice none 0 0] 41)
        have BB := Lib.hid (((B2.out.setCell (p := ⟨w.heap.size + 1 + 1, 0, none⟩) (by show _ ≤ _ + _; omega) (.slice none 0 0)).setCell (p := ⟨w.heap.size + 1 + 1, 1, none⟩) (by show _ ≤ _ + _; omega) (.slice none 0 0)))
        have ms := Lib.hid (Own.nil _ _ _ _ : Own ((w2.setCell ⟨w.heap.size + 1 + 1, 0, none⟩ (.slice none 0 0)).setCell ⟨w.heap.size + 1 + 1, 1, none⟩ (.slice none 0 0)) w.heap.size 64 4 none 0 0 (msgs []))
        have ra : World.cell? _ ⟨w.heap.size + 1 + 1, 0, none⟩ = some (.slice none 0 0) := ZZ.out.get 0 rfl
        have rb : World.cell? _ ⟨w.heap.size + 1 + 1, 1, none⟩ = some (.slice none 0 0) := ZZ.out.get 1 rfl
        refine bodyPost_ret (v := .tuple #[.agg #[.slice none 0 0, .slice none 0 0], .slice none 0 0, .int .i64 3]) (by simp [results, Try.results20, go_sem, ra, rb]) rfl ?_
        exact ⟨none, 0, 0, none, 0, 0, _, 0, 0, by rw [HE.out], by rw [HE.out]; rfl, by rw [HE.out]; rfl, by rw [HE.out]; rfl, by rw [HE.out]; exact Own.nil _ _ _ _, by rw [HE.out]; exact Own.nil _ _ _ _, by rw [HE.out]; exact ms.out, BB.out⟩
      have HC := Lib.hid (⟨HV.out, HV2.out, by rw [HN.out]; show g1 < (n : Int); omega⟩ : asmB zs ps = true ∧ datB ⟨g0, g1, g2, g3, g4, g5, g6⟩ = true ∧ (⟨g0, g1, g2, g3, g4, g5, g6⟩ : Dat).stream < zs.length)
      have hb2 := B2.out.size
      have hn4 : n ≤ 4 := by rw [← HN.out]; exact (asm_true HV.out).1.2
      have hm12 : m ≤ 12 := by rw [← HM.out]; exact (asm_true HV.out).2.1
      go_wp2
      refine copyI _ _ w.heap.size A n c zs A2 m d ps (by show 43 < 142; decide) rfl X2.out.lt x0 x1 ((HS.out.below B2.out (Nat.le_refl _)).more hb2) ((HP.out.below B2.out (Nat.le_refl _)).more hb2) HN.out HM.out (by omega) (by omega) ?_
      intro v0 v1 v2 v4 v5 v6 v8 A3 c3 A5 c5 h w3 o3 o5 hbh qh b3
      have B3 := Lib.hid (bstep B2.out b3 hb2)
      have X3 := Lib.hid (X2.out.below b3 X2.out.lt)
      have Y3 := Lib.hid (Y2.out.below b3 Y2.out.lt)
      have Z3 := Lib.hid (Z2.out.below b3 Z2.out.lt)
      have H3 := Lib.hid qh
      have O3 := Lib.hid (o3.lower (b := w.heap.size + 3) (by omega))
      have O5 := Lib.hid (o5.lower (b := w.heap.size + 3) (by omega))
      have hh3 : w.heap.size + 3 ≤ h := by omega
      have hb3 := b3.size
      clear b3 o3 o5 qh hbh x0 x1 y0 y1 y2 y3 y4 y5 y6 hyl hxl
      clear B2 X2 Y2 Z2
      simp only [Act.put, List.setIfInBounds_toArray, List.set_cons_zero, List.set_cons_succ]
      obtain ⟨r0, hr0⟩ : ∃ q, atK g0 ps 0 = q := ⟨_, rfl⟩
      have HA := Lib.hid hr0
      clear hr0
      have y0 := Y3.out.get 0 rfl
      have hyl := Y3.out.lt
      have k0 := H3.out.get 0 rfl
      have k1 := H3.out.get 1 rfl
      have hhl := H3.out.lt
      have x1 := X3.out.get 1 rfl
      have hxl := X3.out.lt
      go_wp2_with fail
      refine (ipart_eq HA.out _ O5.out.sl HM.out (by omega)).mono ?_
      rintro e w4 ⟨rfl, b4⟩
      have hw3 := B3.out.size
      have B4 := Lib.hid (bstep B3.out b4 hw3)
      have X4 := Lib.hid (X3.out.below b4 X3.out.lt)
      have Y4 := Lib.hid (Y3.out.below b4 Y3.out.lt)
      have Z4 := Lib.hid (Z3.out.below b4 Z3.out.lt)
      have H4 := Lib.hid (H3.out.below b4 H3.out.lt)
      have P3 := Lib.hid (O3.out.below b4 (Nat.le_refl _))
      have P5 := Lib.hid (O5.out.below b4 (Nat.le_refl _))
      have hb4 := b4.size
      clear b4 y0 hyl k0 k1 hhl x1 hxl
      clear B3 X3 Y3 Z3 H3 O3 O5
      have k0 := H4.out.get 0 rfl
      have k1 := H4.out.get 1 rfl
      have hhl := H4.out.lt
      have za0 : w4.cell? ⟨w.heap.size + 2, 0, none⟩ = some (.slice none 0 0) := Z4.out.get 0 rfl
      have za1 : w4.cell? ⟨w.heap.size + 2, 1, none⟩ = some (.slice none 0 0) := Z4.out.get 1 rfl
      have zf0 := Z4.out.frozen 0
      have zf1 := Z4.out.frozen 1
      have hzl := Z4.out.lt
      have x1 := X4.out.get 1 rfl
      have hxl := X4.out.lt
      have hw4 := B4.out.size
      by_cases hr0 : 0 ≤ r0
      · skip
        have HE := Lib.hid (HR.out.symm.trans (add_twice HC.out (by show 0 ≤ atK g0 ps 0; rw [HA.out]; exact hr0)))
        clear HR
        go_wp2
        have ZZ := Lib.hid (by have h := ((Z4.out.set_ 0 (.slice A3 n c3)).set_ 1 (.slice A5 m c5)); exact h : Blk ((w4.setCell ⟨w.heap.size + 1 + 1, 0, none⟩ (.slice A3 n c3)).setCell ⟨w.heap.size + 1 + 1, 1, none⟩ (.slice A5 m c5)) (w.heap.size + 1 + 1) #[.slice A3 n c3, .slice A5 m c5] 41)
        have BB := Lib.hid (((B4.out.setCell (p := ⟨w.heap.size + 1 + 1, 0, none⟩) (by show _ ≤ _ + _; omega) (.slice A3 n c3)).setCell (p := ⟨w.heap.size + 1 + 1, 1, none⟩) (by show _ ≤ _ + _; omega) (.slice A5 m c5)))
        have ms := Lib.hid (Own.nil _ _ _ _ : Own ((w4.setCell ⟨w.heap.size + 1 + 1, 0, none⟩ (.slice A3 n c3)).setCell ⟨w.heap.size + 1 + 1, 1, none⟩ (.slice A5 m c5)) w.heap.size 64 4 none 0 0 (msgs []))
        have R3 := Lib.hid (((P3.out.setLow (p := ⟨w.heap.size + 1 + 1, 0, none⟩) (by show _ + _ < _ + _; omega) (.slice A3 n c3)).setLow (p := ⟨w.heap.size + 1 + 1, 1, none⟩) (by show _ + _ < _ + _; omega) (.slice A5 m c5)) |>.lower (b := w.heap.size) (by omega))
        have R5 := Lib.hid (((P5.out.setLow (p := ⟨w.heap.size + 1 + 1, 0, none⟩) (by show _ + _ < _ + _; omega) (.slice A3 n c3)).setLow (p := ⟨w.heap.size + 1 + 1, 1, none⟩) (by show _ + _ < _ + _; omega) (.slice A5 m c5)) |>.lower (b := w.heap.size) (by omega))
        have ra : World.cell? _ ⟨w.heap.size + 1 + 1, 0, none⟩ = some (.slice A3 n c3) := ZZ.out.get 0 rfl
        have rb : World.cell? _ ⟨w.heap.size + 1 + 1, 1, none⟩ = some (.slice A5 m c5) := ZZ.out.get 1 rfl
        refine bodyPost_ret (v := .tuple #[.agg #[.slice A3 n c3, .slice A5 m c5], .slice none 0 0, .int .i64 1]) (by simp [results, Try.results20, go_sem, ra, rb]) rfl ?_
        exact ⟨A3, n, c3, A5, m, c5, _, 0, 0, by rw [HE.out], by rw [HE.out]; exact HN.out, by rw [HE.out]; exact HM.out, by rw [HE.out]; rfl, by rw [HE.out]; exact R3.out, by rw [HE.out]; exact R5.out, by rw [HE.out]; exact ms.out, BB.out⟩
      by_cases hf : 12 ≤ m
      · have hf' : (12 : Int) ≤ (m : Int) := by omega
        have HE := Lib.hid (HR.out.symm.trans (add_full HC.out (by show ¬ 0 ≤ atK g0 ps 0; rw [HA.out]; exact hr0) (by rw [HM.out]; exact hf)))
        clear HR
        go_wp2
        have ZZ := Lib.hid (by have h := ((Z4.out.set_ 0 (.slice A3 n c3)).set_ 1 (.slice A5 m c5)); exact h : Blk ((w4.setCell ⟨w.heap.size + 1 + 1, 0, none⟩ (.slice A3 n c3)).setCell ⟨w.heap.size + 1 + 1, 1, none⟩ (.slice A5 m c5)) (w.heap.size + 1 + 1) #[.slice A3 n c3, .slice A5 m c5] 41)
        have BB := Lib.hid (((B4.out.setCell (p := ⟨w.heap.size + 1 + 1, 0, none⟩) (by show _ ≤ _ + _; omega) (.slice A3 n c3)).setCell (p := ⟨w.heap.size + 1 + 1, 1, none⟩) (by show _ ≤ _ + _; omega) (.slice A5 m c5)))
        have ms := Lib.hid (Own.nil _ _ _ _ : Own ((w4.setCell ⟨w.heap.size + 1 + 1, 0, none⟩ (.slice A3 n c3)).setCell ⟨w.heap.size + 1 + 1, 1, none⟩ (.slice A5 m c5)) w.heap.size 64 4 none 0 0 (msgs []))
        have R3 := Lib.hid (((P3.out.setLow (p := ⟨w.heap.size + 1 + 1, 0, none⟩) (by show _ + _ < _ + _; omega) (.slice A3 n c3)).setLow (p := ⟨w.heap.size + 1 + 1, 1, none⟩) (by show _ + _ < _ + _; omega) (.slice A5 m c5)) |>.lower (b := w.heap.size) (by omega))
        have R5 := Lib.hid (((P5.out.setLow (p := ⟨w.heap.size + 1 + 1, 0, none⟩) (by show _ + _ < _ + _; omega) (.slice A3 n c3)).setLow (p := ⟨w.heap.size + 1 + 1, 1, none⟩) (by show _ + _ < _ + _; omega) (.slice A5 m c5)) |>.lower (b := w.heap.size) (by omega))
        have ra : World.cell? _ ⟨w.heap.size + 1 + 1, 0, none⟩ = some (.slice A3 n c3) := ZZ.out.get 0 rfl
        have rb : World.cell? _ ⟨w.heap.size + 1 + 1, 1, none⟩ = some (.slice A5 m c5) := ZZ.out.get 1 rfl
        refine bodyPost_ret (v := .tuple #[.agg #[.slice A3 n c3, .slice A5 m c5], .slice none 0 0, .int .i64 2]) (by simp [results, Try.results20, go_sem, ra, rb]) rfl ?_
        exact ⟨A3, n, c3, A5, m, c5, _, 0, 0, by rw [HE.out], by rw [HE.out]; exact HN.out, by rw [HE.out]; exact HM.out, by rw [HE.out]; rfl, by rw [HE.out]; exact R3.out, by rw [HE.out]; exact R5.out, by rw [HE.out]; exact ms.out, BB.out⟩
      have hf' : ¬ (12 : Int) ≤ (m : Int) := by omega
      obtain ⟨rz, rp, rm, hrun⟩ : ∃ z p m, runA 14 zs (ps ++ [⟨g0, g1, g2, g3, g4, g5, g6⟩]) [] = (z, p, m) := ⟨_, _, _, rfl⟩
      have HE := Lib.hid (HR.out.symm.trans (add_done HC.out (by show ¬ 0 ≤ atK g0 ps 0; rw [HA.out]; exact hr0) (by rw [HM.out]; exact hf) hrun))
      have HRUN := Lib.hid hrun
      have HFIT := Lib.hid (fit_start HC.out)
      clear hrun HR za0 za1 zf0 zf1 hzl x1 hxl
      obtain ⟨j0, hj, hy0, hy1, hy2⟩ := info_parts info_data
      have y0 : w4.cell? ⟨w.heap.size + 1, 0, none⟩ = some (.int .i64 g0) := Y4.out.get 0 rfl
      have y1 : w4.cell? ⟨w.heap.size + 1, 1, none⟩ = some (.int .i64 g1) := Y4.out.get 1 rfl
      have y2 : w4.cell? ⟨w.heap.size + 1, 2, none⟩ = some (.int .i64 g2) := Y4.out.get 2 rfl
      have y3 : w4.cell? ⟨w.heap.size + 1, 3, none⟩ = some (.bool g3) := Y4.out.get 3 rfl
      have y4 : w4.cell? ⟨w.heap.size + 1, 4, none⟩ = some (.bool g4) := Y4.out.get 4 rfl
      have y5 : w4.cell? ⟨w.heap.size + 1, 5, none⟩ = some (.bool g5) := Y4.out.get 5 rfl
      have y6 : w4.cell? ⟨w.heap.size + 1, 6, none⟩ = some (.string g6) := Y4.out.get 6 rfl
      have hyl := Y4.out.lt
      have kf1 := H4.out.frozen 1
      go_wp2_with (at_builtin; refine wpList_app _ rfl _ _ _ rfl (w.heap.size + 3) 45 j0 (.agg #[.int .i64 0, .int .i64 0, .int .i64 0, .bool false, .bool false, .bool false, .string ⟨#[]⟩]) 7 48 Try.underlying26 hj hy0 hy1 hy2 rfl (by decide) A5 m c5 (dats ps) rfl (P5.out.alloc _) (w4.heap.size + 1) (some ⟨w4.heap.size, 0, none⟩) 1 1 (dats [⟨g0, g1, g2, g3, g4, g5, g6⟩]) rfl (sl_new rfl) rfl (dats_one _) (by unfold maxLen; omega) (by omega) (by simp; omega) ?_; intro A6 c6 row w5 o6 g5' r5 d5; rw [← dats_app] at o6; have O6 := Lib.hid o6; have Q3 := Lib.hid (own_held (P3.out.alloc _) (P5.out.alloc _) (by decide) g5' r5); have H5 := Lib.hid (blk_held (H4.out.alloc _) (P5.out.alloc _) (by decide) g5' r5); have Z5 := Lib.hid (blk_at (Z4.out.alloc _) g5' r5 (fun a ha => by have := (P5.out.blk a ha).1; omega)); have B5 := Lib.hid (below_at (B4.out.alloc hw4 _) (by simp; omega) g5' r5 (fun a ha => by have := (P5.out.blk a ha).1; omega)); have k0' : w5.cell? ⟨h, 0, none⟩ = some (.slice A3 n c3) := H5.out.get 0 rfl; have k1' : w5.cell? ⟨h, 1, none⟩ = some (.slice A5 m c5) := H5.out.get 1 rfl; have kf1' := H5.out.frozen 1; have hhl5 := H5.out.lt; clear o6 g5' r5 d5)
      obtain ⟨W, hW⟩ : ∃ W, W = (w5.setCell ⟨h, 1, none⟩ (.slice A6 (m + 1) c6)).alloc (.cells #[] 64) := ⟨_, rfl⟩
      have hw5 := B5.out.size
      have LL := Lib.hid (by rw [hW]; exact ⟨(by have h := (H5.out.set_ 1 (.slice A6 (m + 1) c6)).alloc (.cells #[] 64); exact h), (Z5.out.far (p := ⟨h, 1, none⟩) (by show _ + _ ≠ h; omega) _).alloc _, (own_far Q3.out H5.out (by decide) 1 _).alloc _, (own_far O6.out H5.out (by decide) 1 _).alloc _, (by have k := (Own.made (w5.setCell ⟨h, 1, none⟩ (.slice A6 (m + 1) c6)) (w.heap.size + 3) 64 4 #[] 0 (by simp [World.setCell]; omega) (by unfold maxLen; omega) rfl); rw [(by simp [World.setCell] : (w5.setCell ⟨h, 1, none⟩ (.slice A6 (m + 1) c6)).heap.size = w5.heap.size)] at k; exact k), (B5.out.setCell (by show _ ≤ h; omega) _).alloc (by simp [World.setCell]; omega) _⟩ : AdL w W h A3 n c3 zs A6 (m + 1) c6 (ps ++ [⟨g0, g1, g2, g3, g4, g5, g6⟩]) (some ⟨w5.heap.size, 0, none⟩) 0 0 [])
      rw [← hW]
      clear hW H5 Z5 Q3 O6 B5 k0' k1' kf1' hhl5 hw5
      have hlen : (ps ++ [(⟨g0, g1, g2, g3, g4, g5, g6⟩ : Dat)]).length = m + 1 := by rw [List.length_append, HM.out]; rfl
      have HLEN := Lib.hid hlen
      clear hlen
      clear y0 y1 y2 y3 y4 y5 y6 hyl kf1 k0 k1 hhl
      go_loopw [8] (fun sv wr => ∃ (f : Nat) (nx : List Int) (l : List Dat) (ms : List Msg) (A3 : Option Addr) (c3 : Nat) (A5 : Option Addr) (m5 c5 : Nat) (As : Option Addr) (q cs : Nat), sv = .slice As q cs ∧ m5 < f ∧ q + f = 14 ∧ Hid (nx.length = n) ∧ Hid (l.length = m5) ∧ Hid (ms.length = q) ∧ Hid (Fit nx l) ∧ Hid (runA f nx l ms = (rz, rp, rm)) ∧ AdL w wr h A3 n c3 nx A5 m5 c5 l As q cs ms) (fun sv _ => 14 - lenOf sv)
      case atStart => exact ⟨14, zs, _, [], A3, c3, A6, m + 1, c6, _, 0, 0, rfl, by omega, by omega, HN, HLEN, Lib.hid rfl, HFIT, HRUN, LL.out⟩
      case round =>
        clear LL HLEN HFIT HRUN
        obtain ⟨f, nx, l, ms, A3, c3, A5, m5, c5, As, q, cs, rfl, hmf, hqf, hnx, hlm, hmq, hF, hrun, hL⟩ := hrel
        have L := Lib.hid hL
        clear hL
        have hlw := L.out.lt
        have k0 : wr.cell? ⟨h, 0, none⟩ = some (.slice A3 n c3) := L.out.h.get 0 rfl
        have k1 : wr.cell? ⟨h, 1, none⟩ = some (.slice A5 m5 c5) := L.out.h.get 1 rfl
        have hhl := L.out.h.lt
        obtain ⟨f, rfl⟩ : ∃ g, f = g + 1 := ⟨f - 1, by omega⟩
        obtain ⟨R, hD⟩ : ∃ R, dueP nx l = R := ⟨_, rfl⟩
        have qT := int_nil
        go_wp2_with fail
        refine (idue A3 n c3 nx A5 m5 c5 l hD wr L.out.i.sl L.out.p.sl hnx.out hlm.out hF.out (by omega)).mono ?_
        rintro e w7 ⟨Ac, qc, cc, rfl, hRq, hnl, oc, b7⟩
        have hw7 := b7.size
        have L7 := Lib.hid (L.out.below b7)
        have OC := Lib.hid (oc.lower hlw)
        have HD := Lib.hid hD
        have HRQ := Lib.hid hRq
        clear oc b7 L k0 k1 hhl hD hRq
        have k0 : w7.cell? ⟨h, 0, none⟩ = some (.slice A3 n c3) := L7.out.h.get 0 rfl
        have k1 : w7.cell? ⟨h, 1, none⟩ = some (.slice A5 m5 c5) := L7.out.h.get 1 rfl
        have hhl := L7.out.h.lt
        by_cases hR : R = []
        · skip
          obtain ⟨rfl, rfl⟩ := hnl rfl hR
          have hq0 : qc = 0 := by rw [← HRQ.out, hR]; rfl
          have HX := Lib.hid (hrun.out.symm.trans (run_end (by rw [HD.out, hR])))
          have HE2 := Lib.hid (HE.out.trans (by have h := HX.out; simp only [Prod.mk.injEq] at h; rw [h.1, h.2.1, h.2.2] : (⟨rz, rp, rm, 0⟩ : Added) = ⟨nx, l, ms, 0⟩))
          clear HE HX
          subst hq0
          have za0 : w7.cell? ⟨w.heap.size + 2, 0, none⟩ = some (.slice none 0 0) := L7.out.z.get 0 rfl
          have za1 : w7.cell? ⟨w.heap.size + 2, 1, none⟩ = some (.slice none 0 0) := L7.out.z.get 1 rfl
          have zf0 := L7.out.z.frozen 0
          have zf1 := L7.out.z.frozen 1
          have hzl := L7.out.z.lt
          go_wp2
          have ZZ := Lib.hid (by have h := ((L7.out.z.set_ 0 (.slice A3 n c3)).set_ 1 (.slice A5 m5 c5)); exact h : Blk ((w7.setCell ⟨w.heap.size + 1 + 1, 0, none⟩ (.slice A3 n c3)).setCell ⟨w.heap.size + 1 + 1, 1, none⟩ (.slice A5 m5 c5)) (w.heap.size + 1 + 1) #[.slice A3 n c3, .slice A5 m5 c5] 41)
          have BB := Lib.hid ((L7.out.b.setCell (p := ⟨w.heap.size + 1 + 1, 0, none⟩) (by show _ ≤ _ + _; omega) (.slice A3 n c3)).setCell (p := ⟨w.heap.size + 1 + 1, 1, none⟩) (by show _ ≤ _ + _; omega) (.slice A5 m5 c5))
          have Ri := Lib.hid (((L7.out.i.setLow (p := ⟨w.heap.size + 1 + 1, 0, none⟩) (by show _ + _ < _ + _; omega) (.slice A3 n c3)).setLow (p := ⟨w.heap.size + 1 + 1, 1, none⟩) (by show _ + _ < _ + _; omega) (.slice A5 m5 c5)) |>.lower (b := w.heap.size) (by omega))
          have Rp := Lib.hid (((L7.out.p.setLow (p := ⟨w.heap.size + 1 + 1, 0, none⟩) (by show _ + _ < _ + _; omega) (.slice A3 n c3)).setLow (p := ⟨w.heap.size + 1 + 1, 1, none⟩) (by show _ + _ < _ + _; omega) (.slice A5 m5 c5)) |>.lower (b := w.heap.size) (by omega))
          have Rs := Lib.hid (((L7.out.s.setLow (p := ⟨w.heap.size + 1 + 1, 0, none⟩) (by show _ + _ < _ + _; omega) (.slice A3 n c3)).setLow (p := ⟨w.heap.size + 1 + 1, 1, none⟩) (by show _ + _ < _ + _; omega) (.slice A5 m5 c5)) |>.lower (b := w.heap.size) (by omega))
          have ra : World.cell? _ ⟨w.heap.size + 1 + 1, 0, none⟩ = some (.slice A3 n c3) := ZZ.out.get 0 rfl
          have rb : World.cell? _ ⟨w.heap.size + 1 + 1, 1, none⟩ = some (.slice A5 m5 c5) := ZZ.out.get 1 rfl
          refine bodyPost_ret (v := .tuple #[.agg #[.slice A3 n c3, .slice A5 m5 c5], .slice As q cs, .int .i64 0]) (by simp [results, Try.results20, go_sem, ra, rb]) rfl ?_
          exact ⟨A3, n, c3, A5, m5, c5, As, q, cs, by rw [HE2.out], by rw [HE2.out]; exact hnx.out, by rw [HE2.out]; exact hlm.out, by rw [HE2.out]; exact hmq.out, by rw [HE2.out]; exact Ri.out, by rw [HE2.out]; exact Rp.out, by rw [HE2.out]; exact Rs.out, BB.out⟩
        clear hnl
        obtain ⟨gc, rfl⟩ := some_of_ne OC.out HRQ.out hR
        have hq0 : qc ≠ 0 := fun h => hR (List.eq_nil_of_length_eq_zero (by rw [HRQ.out, h]))
        obtain ⟨x, c, hxc⟩ := chainAt HRQ.out hq0
        have HD1 := Lib.hid (HD.out.trans hxc)
        clear HD
        obtain ⟨dd, hx, htn, hall, h13⟩ := due_turn hF.out HD1.out
        rw [← hxc] at hall h13
        rw [HRQ.out] at h13
        have hR0 : R[0]? = some x := by rw [hxc]; rfl
        have HXC := Lib.hid hxc
        clear hxc
        have hxm : x < m5 := by rw [← hlm.out]; exact (List.getElem?_eq_some_iff.1 hx).1
        have hdk := hF.out.ok _ (List.mem_of_getElem? hx)
        have hb2 := datB_true hdk.1
        have hst0 := (okB_true hb2.2.1).1
        have hst1 := hdk.2
        rw [hnx.out] at hst1
        have HALL := Lib.hid hall
        have HX := Lib.hid hx
        clear hdk hb2 hall
        obtain ⟨g5, rfl⟩ := L7.out.p.some_of (by omega : m5 ≠ 0)
        obtain ⟨d0, d1, d2, d3, d4, d5, d6⟩ := dd
        change (0 : Int) ≤ d1 at hst0
        change d1 < (n : Int) at hst1
        obtain ⟨s, rfl⟩ : ∃ s : Nat, d1 = (s : Int) := ⟨d1.toNat, by omega⟩
        have hsn : s < n := by omega
        have hxi : (0 : Int) ≤ (x : Int) := by omega
        have hxm' : (x : Int) < (m5 : Int) := by omega
        have hqi : (0 : Int) < (qc : Int) := by omega
        have hqn : 0 < qc := by omega
        have e0 : w7.cell? ⟨g5, x * 7, none⟩ = some (.int .i64 d0) := L7.out.p.fcell (x * 7 + 0) (flat_at datC_len hx (j := 0) rfl)
        have e1 : w7.cell? ⟨g5, x * 7 + 1, none⟩ = some (.int .i64 (s : Int)) := L7.out.p.fcell (x * 7 + 1) (flat_at datC_len hx (j := 1) rfl)
        have e2 : w7.cell? ⟨g5, x * 7 + 2, none⟩ = some (.int .i64 d2) := L7.out.p.fcell (x * 7 + 2) (flat_at datC_len hx (j := 2) rfl)
        have e3 : w7.cell? ⟨g5, x * 7 + 3, none⟩ = some (.bool d3) := L7.out.p.fcell (x * 7 + 3) (flat_at datC_len hx (j := 3) rfl)
        have e4 : w7.cell? ⟨g5, x * 7 + 4, none⟩ = some (.bool d4) := L7.out.p.fcell (x * 7 + 4) (flat_at datC_len hx (j := 4) rfl)
        have e5 : w7.cell? ⟨g5, x * 7 + 5, none⟩ = some (.bool d5) := L7.out.p.fcell (x * 7 + 5) (flat_at datC_len hx (j := 5) rfl)
        have e6 : w7.cell? ⟨g5, x * 7 + 6, none⟩ = some (.string d6) := L7.out.p.fcell (x * 7 + 6) (flat_at datC_len hx (j := 6) rfl)
        have zc : w7.cell? ⟨gc, 0, none⟩ = some (.int .i64 (x : Int)) := OC.out.fcell 0 (nats_at hR0)
        have hg5 : g5 < w7.heap.size := (L7.out.p.blk _ rfl).2.1
        have hgc : gc < w7.heap.size := (OC.out.blk _ rfl).2.1
        clear hx hR0 hhl k0
        have hhl := L7.out.h.lt
        go_wp2
        refine wp_region_held_drew (S := fun w' => w'.cell? ⟨g5, x * 7, none⟩ = some (.int .i64 d0) ∧ w'.cell? ⟨g5, x * 7 + 1, none⟩ = some (.int .i64 (s : Int)) ∧ w'.cell? ⟨g5, x * 7 + 2, none⟩ = some (.int .i64 d2) ∧ w'.cell? ⟨g5, x * 7 + 3, none⟩ = some (.bool d3) ∧ w'.cell? ⟨g5, x * 7 + 4, none⟩ = some (.bool d4) ∧ w'.cell? ⟨g5, x * 7 + 5, none⟩ = some (.bool d5) ∧ w'.cell? ⟨g5, x * 7 + 6, none⟩ = some (.string d6) ∧ w'.cell? ⟨gc, 0, none⟩ = some (.int .i64 (x : Int)) ∧ w'.cell? ⟨h, 1, none⟩ = some (.slice (some ⟨g5, 0, none⟩) m5 c5)) (by kernel_rfl) (by first | exact ⟨e0, e1, e2, e3, e4, e5, e6, zc, k1⟩ | go_keep) (fun hHeld => ?_)
        refine wpAnyH_take (i := 0) (oi := ⟨some 69, _, _, _, _, _⟩) (v := ?_) rfl (by kernel_rfl) (by kernel_rfl) (by kernel_rfl) (fun _ _ _ h => h) (Or.inl ⟨by kernel_rfl, ?y1⟩) (by assumption) ?_
        case y1 => (intro w hSw; (try dsimp only at hSw); first | (go_simp; done) | (go_simp; with_reducible rfl))
        simp only [Act.put, List.setIfInBounds_toArray, List.set_cons_zero, List.set_cons_succ]
        refine wpAnyH_take (i := 1) (oi := ⟨some 70, _, _, _, _, _⟩) (v := ?_) rfl (by kernel_rfl) (by kernel_rfl) (by kernel_rfl) (fun _ _ _ h => h) (Or.inl ⟨by kernel_rfl, ?y2⟩) (by assumption) ?_
        case y2 => (intro w hSw; (try dsimp only at hSw); first | (go_simp; done) | (go_simp; with_reducible rfl))
        simp only [Act.put, List.setIfInBounds_toArray, List.set_cons_zero, List.set_cons_succ]
        refine wpAnyH_take (i := 2) (oi := ⟨some 71, _, _, _, _, _⟩) (v := ?_) rfl (by kernel_rfl) (by kernel_rfl) (by kernel_rfl) (fun _ _ _ h => h) (Or.inl ⟨by kernel_rfl, ?y3⟩) (by assumption) ?_
        case y3 => (intro w hSw; (try dsimp only at hSw); first | (go_simp; done) | (go_simp; with_reducible rfl))
        simp only [Act.put, List.setIfInBounds_toArray, List.set_cons_zero, List.set_cons_succ]
        refine wpAnyH_take (i := 3) (oi := ⟨some 72, _, _, _, _, _⟩) (v := ?_) rfl (by kernel_rfl) (by kernel_rfl) (by kernel_rfl) (fun _ _ _ h => h) (Or.inl ⟨by kernel_rfl, ?y4⟩) (by assumption) ?_
        case y4 => (intro w hSw; (try dsimp only at hSw); first | (go_simp; done) | (go_simp; with_reducible rfl))
        simp only [Act.put, List.setIfInBounds_toArray, List.set_cons_zero, List.set_cons_succ]
        refine wpAnyH_take (i := 4) (oi := ⟨some 73, _, _, _, _, _⟩) (v := ?_) rfl (by kernel_rfl) (by kernel_rfl) (by kernel_rfl) (fun _ _ _ h => h) (Or.inl ⟨by kernel_rfl, ?y5⟩) (by assumption) ?_
        case y5 => (intro w hSw; (try dsimp only at hSw); first | (go_simp; done) | (go_simp; with_reducible rfl))
        simp only [Act.put, List.setIfInBounds_toArray, List.set_cons_zero, List.set_cons_succ]
        refine wpAnyH_take (i := 5) (oi := ⟨some 74, _, _, _, _, _⟩) (v := ?_) rfl (by kernel_rfl) (by kernel_rfl) (by kernel_rfl) (fun _ _ _ h => h) (Or.inl ⟨by kernel_rfl, ?y6⟩) (by assumption) ?_
        case y6 => (intro w hSw; (try dsimp only at hSw); first | (go_simp; done) | (go_simp; with_reducible rfl))
        simp only [Act.put, List.setIfInBounds_toArray, List.set_cons_zero, List.set_cons_succ]
        refine wpAnyH_take (i := 6) (oi := ⟨some 75, _, _, _, _, _⟩) (v := ?_) rfl (by kernel_rfl) (by kernel_rfl) (by kernel_rfl) (fun _ _ _ h => h) (Or.inl ⟨by kernel_rfl, ?y7⟩) (by assumption) ?_
        case y7 => (intro w hSw; (try dsimp only at hSw); first | (go_simp; done) | (go_simp; with_reducible rfl))
        simp only [Act.put, List.setIfInBounds_toArray, List.set_cons_zero, List.set_cons_succ]
        refine wpAnyH_ready (rs := [7]) (by kernel_rfl) (by simp) ?_
        refine AllReadyH.cons (o := ⟨some 10, _, _, _, _, _⟩) rfl (fun K hK => ?_) AllReadyH.nil
        go_simp
        refine hK.out _ _ (by first | exact ⟨e0, e1, e2, e3, e4, e5, e6, zc, k1⟩ | go_keep) (fun hHeld => ?_)
        clear hK K
        try simp only [Act.put, List.setIfInBounds_toArray, List.set_cons_zero, List.set_cons_succ]
        refine wpAnyH_ready (rs := [8]) (by kernel_rfl) (by simp) ?_
        refine AllReadyH.cons (o := ⟨none, _, _, _, _, _⟩) rfl (fun K hK => ?_) AllReadyH.nil
        go_simp
        refine hK.out _ _ (by first | exact ⟨e0, e1, e2, e3, e4, e5, e6, zc, k1⟩ | go_keep) (fun hHeld => ?_)
        clear hK K
        try simp only [Act.put, List.setIfInBounds_toArray, List.set_cons_zero, List.set_cons_succ]
        refine wpAnyH_done (by kernel_rfl) ?_ _
        have U := Lib.hid (RdS.start L7.out OC.out #[.int .i64 d0, .int .i64 (s : Int), .int .i64 d2, .bool d3, .bool d4, .bool d5, .string d6] #[.int .i64 (s : Int), .int .i64 d2, .bool d5, .string ⟨#[]⟩] (tkC []))
        rw [tkC_nil] at U
        have Y := (Blk.new w7 #[.int .i64 d0, .int .i64 (s : Int), .int .i64 d2, .bool d3, .bool d4, .bool d5, .string d6] 45).drew
        have y1 : (w7.alloc (.cells #[.int .i64 d0, .int .i64 (s : Int), .int .i64 d2, .bool d3, .bool d4, .bool d5, .string d6] 45)).drew.cell? ⟨w7.heap.size, 1, none⟩ = some (.int .i64 (s : Int)) := Y.get 1 rfl
        have y2 : (w7.alloc (.cells #[.int .i64 d0, .int .i64 (s : Int), .int .i64 d2, .bool d3, .bool d4, .bool d5, .string d6] 45)).drew.cell? ⟨w7.heap.size, 2, none⟩ = some (.int .i64 d2) := Y.get 2 rfl
        have y5 : (w7.alloc (.cells #[.int .i64 d0, .int .i64 (s : Int), .int .i64 d2, .bool d3, .bool d4, .bool d5, .string d6] 45)).drew.cell? ⟨w7.heap.size, 5, none⟩ = some (.bool d5) := Y.get 5 rfl
        have hyl := Y.lt
        clear Y zc k1 e0 e1 e2 e3 e4 e5 e6
        clear L7 OC
        go_wp2
        obtain ⟨TX, hTX⟩ : ∃ T, textA l R ⟨#[]⟩ = T := ⟨_, rfl⟩
        have HTX := Lib.hid hTX
        clear hTX
        go_loopw [86] (fun iv wr => ∃ (i : Nat) (T : ByteArray), i ≤ qc ∧ iv = .int .i64 i ∧ Hid (textA l (R.drop i) T = TX) ∧ T.size ≤ 20 * i ∧ RdS w w7.heap.size wr h A3 n c3 nx (some ⟨g5, 0, none⟩) m5 c5 l As q cs ms (some ⟨gc, 0, none⟩) qc cc R #[.int .i64 d0, .int .i64 (s : Int), .int .i64 d2, .bool d3, .bool d4, .bool d5, .string d6] #[.int .i64 (s : Int), .int .i64 d2, .bool d5, .string T] (tkC (R.take i))) (fun iv _ => qc - (intOf iv).toNat)
        case atStart => exact ⟨0, ⟨#[]⟩, by omega, rfl, HTX, by decide, by rw [List.take_zero, tkC_nil]; exact U.out⟩
        case round =>
          clear U y1 y2 y5 hyl
          obtain ⟨i, T, hi', rfl, hE, hTs, hU⟩ := hrel
          have U := Lib.hid hU
          clear hU
          have hul := U.out.lt
          by_cases hlt : i < qc
          · obtain ⟨y, hy⟩ := fget_of_lt (xs := R) (k := i) (by rw [HRQ.out]; exact hlt)
            have hym := HALL.out y (List.mem_of_getElem? hy)
            obtain ⟨e, he⟩ := fget_of_lt (xs := l) (k := y) hym
            rw [hlm.out] at hym
            have e6 : wr.cell? ⟨g5, y * 7 + 6, none⟩ = some (.string e.text) := U.out.L.p.fcell (y * 7 + 6) (flat_at datC_len he (j := 6) rfl)
            have ec : wr.cell? ⟨gc, i, none⟩ = some (.int .i64 (y : Int)) := U.out.o.fcell i (nats_at hy)
            have hg5r := (U.out.L.p.blk _ rfl).2.1
            have hgcr := (U.out.o.blk _ rfl).2.1
            have hes := (datB_true (hF.out.ok e (List.mem_of_getElem? he)).1).2.2.2.2
            have HE3 := Lib.hid ((text_step hy he T).symm.trans hE.out)
            have HTK := Lib.hid (tkC_set hy)
            clear hy he hE
            generalize e.text = t at e6 hes HE3
            have hsz : (T ++ t).size = T.size + t.size := ByteArray.size_append
            have hcat : ¬ 9223372036854775807 < T.size + t.size := by omega
            have hm5 : m5 ≤ 13 := by rw [← hlm.out]; exact hF.out.len
            have hy13 : (y : Int) < 13 := by omega
            have hy13' : y < 13 := by omega
            have hyi : (0 : Int) ≤ (y : Int) := by omega
            have hym' : (y : Int) < (m5 : Int) := by omega
            have hii : (0 : Int) ≤ (i : Int) := by omega
            have hiq : (i : Int) < (qc : Int) := by omega
            have x1 : wr.cell? ⟨h, 1, none⟩ = some (.slice (some ⟨g5, 0, none⟩) m5 c5) := U.out.L.h.get 1 rfl
            have hhr := U.out.L.h.lt
            have hbh := U.out.bh
            have hbp : g5 < w7.heap.size := U.out.bp _ rfl
            have m3 : wr.cell? ⟨w7.heap.size + 1, 3, none⟩ = some (.string T) := U.out.m.get 3 rfl
            have mf := U.out.m.frozen 3
            have ml := U.out.m.lt
            have tt := U.out.t.get y (tkC_get _ hy13')
            have tf := U.out.t.frozen y
            have tl := U.out.t.lt
            go_wp2_with fail
            have k1 := drewfar e6 (p := ⟨w7.heap.size + 1, 3, none⟩) (by show g5 ≠ _ + _; omega) (.string (T ++ t))
            have k3 := drewfar x1 (p := ⟨w7.heap.size + 1, 3, none⟩) (by show _ ≠ _ + _; omega) (.string (T ++ t))
            refine wp_region_held_drew (S := fun w' => w'.cell? ⟨g5, y * 7 + 6, none⟩ = some (.string t) ∧ w'.cell? ⟨h, 1, none⟩ = some (.slice (some ⟨g5, 0, none⟩) m5 c5)) (by kernel_rfl) (by first | exact ⟨e6, x1⟩) (fun hHeld => ?_)
            refine wpAnyH_take (i := 0) (oi := ⟨some 90, _, _, _, _, _⟩) (v := ?_) rfl (by kernel_rfl) (by kernel_rfl) (by kernel_rfl) (fun _ _ _ h => h) (Or.inl ⟨by kernel_rfl, ?y8⟩) (by assumption) ?_
            case y8 => (intro w hSw; (try dsimp only at hSw); first | (go_simp; done) | (go_simp; with_reducible rfl))
            simp only [Act.put, List.setIfInBounds_toArray, List.set_cons_zero, List.set_cons_succ]
            refine wpAnyH_take (i := 2) (oi := ⟨some 92, _, _, _, _, _⟩) (v := ?_) rfl (by kernel_rfl) (by kernel_rfl) (by kernel_rfl) (fun _ _ _ h => h) (Or.inl ⟨by kernel_rfl, ?y9⟩) (by assumption) ?_
            case y9 => (intro w hSw; (try dsimp only at hSw); first | (go_simp; done) | (go_simp; with_reducible rfl))
            simp only [Act.put, List.setIfInBounds_toArray, List.set_cons_zero, List.set_cons_succ]
            refine wpAnyH_take (i := 3) (oi := ⟨some 93, _, _, _, _, _⟩) (v := ?_) rfl (by kernel_rfl) (by kernel_rfl) (by kernel_rfl) (fun _ _ _ h => h) (Or.inl ⟨by kernel_rfl, ?y10⟩) (by assumption) ?_
            case y10 => (intro w hSw; (try dsimp only at hSw); first | (go_simp; done) | (go_simp; with_reducible rfl))
            simp only [Act.put, List.setIfInBounds_toArray, List.set_cons_zero, List.set_cons_succ]
            refine wpAnyH_take (i := 4) (oi := ⟨some 94, _, _, _, _, _⟩) (v := ?_) rfl (by kernel_rfl) (by kernel_rfl) (by kernel_rfl) (fun _ _ _ h => h) (Or.inl ⟨by kernel_rfl, ?y11⟩) (by assumption) ?_
            case y11 => (intro w hSw; (try dsimp only at hSw); first | (go_simp; done) | (go_simp; with_reducible rfl))
            simp only [Act.put, List.setIfInBounds_toArray, List.set_cons_zero, List.set_cons_succ]
            refine wpAnyH_take (i := 5) (oi := ⟨some 95, _, _, _, _, _⟩) (v := ?_) rfl (by kernel_rfl) (by kernel_rfl) (by kernel_rfl) (fun _ _ _ h => h) (Or.inl ⟨by kernel_rfl, ?y12⟩) (by assumption) ?_
            case y12 => (intro w hSw; (try dsimp only at hSw); first | (go_simp; done) | (go_simp; with_reducible rfl))
            simp only [Act.put, List.setIfInBounds_toArray, List.set_cons_zero, List.set_cons_succ]
            refine wpAnyH_take (i := 6) (oi := ⟨some 96, _, _, _, _, _⟩) (v := ?_) rfl (by kernel_rfl) (by kernel_rfl) (by kernel_rfl) (fun _ _ _ h => h) (Or.inl ⟨by kernel_rfl, ?y13⟩) (by assumption) ?_
            case y13 => (intro w hSw; (try dsimp only at hSw); first | (go_simp; done) | (go_simp; with_reducible rfl))
            simp only [Act.put, List.setIfInBounds_toArray, List.set_cons_zero, List.set_cons_succ]
            refine wpAnyH_take (i := 7) (oi := ⟨some 97, _, _, _, _, _⟩) (v := ?_) rfl (by kernel_rfl) (by kernel_rfl) (by kernel_rfl) (fun _ _ _ h => h) (Or.inl ⟨by kernel_rfl, ?y14⟩) (by assumption) ?_
            case y14 => (intro w hSw; (try dsimp only at hSw); first | (go_simp; done) | (go_simp; with_reducible rfl))
            simp only [Act.put, List.setIfInBounds_toArray, List.set_cons_zero, List.set_cons_succ]
            refine wpAnyH_ready (rs := [1]) (by kernel_rfl) (by simp) ?_
            refine AllReadyH.cons (o := ⟨some 91, _, _, _, _, _⟩) rfl (fun K hK => ?_) AllReadyH.nil
            go_simp
            refine hK.out _ _ (by first | exact ⟨e6, x1⟩) (fun hHeld => ?_)
            clear hK K
            try simp only [Act.put, List.setIfInBounds_toArray, List.set_cons_zero, List.set_cons_succ]
            refine wpAnyH_take (i := 8) (oi := ⟨some 98, _, _, _, _, _⟩) (v := ?_) rfl (by kernel_rfl) (by kernel_rfl) (by kernel_rfl) (fun _ _ _ h => h) (Or.inl ⟨by kernel_rfl, ?y15⟩) (by assumption) ?_
            case y15 => (intro w hSw; (try dsimp only at hSw); first | (go_simp; done) | (go_simp; with_reducible rfl))
            simp only [Act.put, List.setIfInBounds_toArray, List.set_cons_zero, List.set_cons_succ]
            refine wpAnyH_take (i := 9) (oi := ⟨some 99, _, _, _, _, _⟩) (v := ?_) rfl (by kernel_rfl) (by kernel_rfl) (by kernel_rfl) (fun _ _ _ h => h) (Or.inl ⟨by kernel_rfl, ?y16⟩) (by assumption) ?_
            case y16 => (intro w hSw; (try dsimp only at hSw); first | (go_simp; done) | (go_simp; with_reducible rfl))
            simp only [Act.put, List.setIfInBounds_toArray, List.set_cons_zero, List.set_cons_succ]
            refine wpAnyH_ready (rs := [10]) (by kernel_rfl) (by simp) ?_
            refine AllReadyH.cons (o := ⟨none, _, _, _, _, _⟩) rfl (fun K hK => ?_) AllReadyH.nil
            go_simp
            refine hK.out _ _ (by first | exact ⟨k1, k3⟩) (fun hHeld => ?_)
            clear hK K
            try simp only [Act.put, List.setIfInBounds_toArray, List.set_cons_zero, List.set_cons_succ]
            refine wpAnyH_done (by kernel_rfl) ?_ _
            clear k1 k3 m3 mf e6 ec x1
            go_wp2
            go_roundw
            case rel => exact ⟨i + 1, T ++ t, by omega, by go_num, HE3, by omega, by rw [← HTK.out]; exact ((U.out.setM 3 (.string (T ++ t))).setT y (.bool true)).drew⟩
            case measure => simp [intOf]; omega
          have hTE := Lib.hid ((text_end (by rw [HRQ.out]; omega) T).symm.trans hE.out)
          clear hE
          obtain rfl : T = TX := hTE.out
          clear hTE
          have hiq : i = qc := by omega
          rw [hiq, List.take_of_length_le (by rw [HRQ.out]; exact Nat.le_refl _)] at U
          have x1 : wr.cell? ⟨h, 1, none⟩ = some (.slice (some ⟨g5, 0, none⟩) m5 c5) := U.out.L.h.get 1 rfl
          have hhr := U.out.L.h.lt
          have hm5 : m5 ≤ 13 := by rw [← hlm.out]; exact hF.out.len
          go_wp2
          obtain ⟨RS, hRS⟩ : ∃ r, restA R l 0 = r := ⟨_, rfl⟩
          have HRS := Lib.hid hRS
          clear hRS x1
          obtain ⟨wo, hwo⟩ : ∃ x, x = wr := ⟨_, rfl⟩
          go_loopw [15, 107] (fun rv iv wr => ∃ (k : Nat) (A9 : Option Addr) (m9 c9 : Nat) (l9 : List Dat), k ≤ m5 ∧ rv = .slice A9 m9 c9 ∧ iv = .int .i64 k ∧ Hid (l9.length = m9) ∧ m9 ≤ k ∧ Hid (l9 ++ restA R (l.drop k) k = RS) ∧ Own wr (w7.heap.size + 3) 45 7 A9 m9 c9 (dats l9) ∧ RdS w w7.heap.size wr h A3 n c3 nx (some ⟨g5, 0, none⟩) m5 c5 l As q cs ms (some ⟨gc, 0, none⟩) qc cc R #[.int .i64 d0, .int .i64 (s : Int), .int .i64 d2, .bool d3, .bool d4, .bool d5, .string d6] #[.int .i64 (s : Int), .int .i64 d2, .bool d5, .string T] (tkC R)) (fun _ iv _ => m5 - (intOf iv).toNat)
          case atStart => exact ⟨0, some ⟨wr.heap.size, 0, none⟩, 0, 0, [], by omega, rfl, rfl, Lib.hid rfl, by omega, HRS, (Own.made wr (w7.heap.size + 3) 45 7 #[] 0 hul (by unfold maxLen; omega) rfl), U.out.alloc _⟩
          case round =>
            clear U hul hhr hwo
            obtain ⟨k, A9, m9, c9, l9, hk, rfl, rfl, hl9, hm9, hE, hP, hU⟩ := hrel
            have P := Lib.hid hP
            have U := Lib.hid hU
            clear hP hU
            have hul := U.out.lt
            by_cases hlt : k < m5
            · obtain ⟨e, he⟩ := fget_of_lt (xs := l) (k := k) (by rw [hlm.out]; exact hlt)
              have hki : (0 : Int) ≤ (k : Int) := by omega
              have hkm : (k : Int) < (m5 : Int) := by omega
              have hk13 : (k : Int) < 13 := by omega
              have hk13' : k < 13 := by omega
              obtain ⟨v, hv⟩ : ∃ v, R.contains k = v := ⟨_, rfl⟩
              have HV5 := Lib.hid hv
              have tt := U.out.t.get k (tkC_get _ hk13')
              rw [hv] at tt
              clear hv
              have tl := U.out.t.lt
              have hg5r := (U.out.L.p.blk _ rfl).2.1
              have HE0 := Lib.hid he
              clear he
              obtain ⟨f0, f1, f2, f3, f4, f5, f6⟩ := e
              have e0 : wr.cell? ⟨g5, k * 7, none⟩ = some (.int .i64 f0) := U.out.L.p.fcell (k * 7 + 0) (flat_at datC_len HE0.out (j := 0) rfl)
              have e1 : wr.cell? ⟨g5, k * 7 + 1, none⟩ = some (.int .i64 f1) := U.out.L.p.fcell (k * 7 + 1) (flat_at datC_len HE0.out (j := 1) rfl)
              have e2 : wr.cell? ⟨g5, k * 7 + 2, none⟩ = some (.int .i64 f2) := U.out.L.p.fcell (k * 7 + 2) (flat_at datC_len HE0.out (j := 2) rfl)
              have e3 : wr.cell? ⟨g5, k * 7 + 3, none⟩ = some (.bool f3) := U.out.L.p.fcell (k * 7 + 3) (flat_at datC_len HE0.out (j := 3) rfl)
              have e4 : wr.cell? ⟨g5, k * 7 + 4, none⟩ = some (.bool f4) := U.out.L.p.fcell (k * 7 + 4) (flat_at datC_len HE0.out (j := 4) rfl)
              have e5 : wr.cell? ⟨g5, k * 7 + 5, none⟩ = some (.bool f5) := U.out.L.p.fcell (k * 7 + 5) (flat_at datC_len HE0.out (j := 5) rfl)
              have e6 : wr.cell? ⟨g5, k * 7 + 6, none⟩ = some (.string f6) := U.out.L.p.fcell (k * 7 + 6) (flat_at datC_len HE0.out (j := 6) rfl)
              cases v with
              | true =>
                have HE3 := Lib.hid (by have h := hE.out; rw [rest_yes HE0.out HV5.out] at h; exact h : l9 ++ restA R (l.drop (k + 1)) (k + 1) = RS)
                clear hE HE0
                go_wp2
                go_roundw
                case rel => exact ⟨k + 1, A9, m9, c9, l9, by omega, rfl, by go_num, hl9, by omega, HE3, P.out.alloc _, U.out.alloc _⟩
                case measure => simp [intOf]; omega
              | false =>
                have HE3 := Lib.hid (by have h := hE.out; rw [rest_no HE0.out HV5.out, ← List.append_assoc] at h; exact h : (l9 ++ [⟨f0, f1, f2, f3, f4, f5, f6⟩]) ++ restA R (l.drop (k + 1)) (k + 1) = RS)
                clear hE HE0
                obtain ⟨j0, hj, hy0, hy1, hy2⟩ := info_parts info_data
                have hsl := Lib.hid (by have h := sl_new (w := wr.alloc (.cells #[.int .i64 f0, .int .i64 f1, .int .i64 f2, .bool f3, .bool f4, .bool f5, .string f6] 45)) (cs := #[.int .i64 f0, .int .i64 f1, .int .i64 f2, .bool f3, .bool f4, .bool f5, .string f6]) (t := 45) (xs := dats [⟨f0, f1, f2, f3, f4, f5, f6⟩]) rfl; rw [World.size_alloc] at h; exact h : Sl ((wr.alloc (.cells #[.int .i64 f0, .int .i64 f1, .int .i64 f2, .bool f3, .bool f4, .bool f5, .string f6] 45)).alloc (.cells #[.int .i64 f0, .int .i64 f1, .int .i64 f2, .bool f3, .bool f4, .bool f5, .string f6] 45)) (wr.heap.size + 1 + 1) (some ⟨wr.heap.size + 1, 0, none⟩) (dats [⟨f0, f1, f2, f3, f4, f5, f6⟩]))
                go_wp2_with (at_builtin; refine wpList_app _ rfl _ _ _ rfl (w7.heap.size + 3) 45 j0 (.agg #[.int .i64 0, .int .i64 0, .int .i64 0, .bool false, .bool false, .bool false, .string ⟨#[]⟩]) 7 48 Try.underlying26 hj hy0 hy1 hy2 rfl (by decide) A9 m9 c9 (dats l9) rfl ((P.out.alloc _).alloc _) (wr.heap.size + 1 + 1) (some ⟨wr.heap.size + 1, 0, none⟩) 1 1 (dats [⟨f0, f1, f2, f3, f4, f5, f6⟩]) rfl hsl.out rfl (dats_one _) (by unfold maxLen; omega) (by omega) (by simp; omega) ?_; intro A10 c10 row w9 o9 g9 r9 d9; rw [← dats_app] at o9; have P9 := Lib.hid o9; have U9 := Lib.hid (((U.out.alloc (.cells #[.int .i64 f0, .int .i64 f1, .int .i64 f2, .bool f3, .bool f4, .bool f5, .string f6] 45)).alloc (.cells #[.int .i64 f0, .int .i64 f1, .int .i64 f2, .bool f3, .bool f4, .bool f5, .string f6] 45)).grown g9 (fun k hk => by obtain ⟨a, ha, hab⟩ := r9 k hk; have := (P.out.blk a ha).1; omega)); clear o9 g9 r9 d9)
                refine ⟨⟨_, _, _, _, ⟨k + 1, by omega, A10, m9 + 1, c10, rfl, by go_num, l9 ++ [⟨f0, f1, f2, f3, f4, f5, f6⟩], Lib.hid (by rw [List.length_append, hl9.out]; rfl), by omega, HE3, P9.out, U9.out⟩, rfl, rfl, rfl, rfl⟩, by simp [intOf]; omega⟩
            have HRE := Lib.hid (by have h := hE.out; rw [rest_end (by rw [hlm.out]; omega), List.append_nil] at h; exact h : l9 = RS)
            clear hE
            have k0 : wr.cell? ⟨h, 0, none⟩ = some (.slice A3 n c3) := U.out.L.h.get 0 rfl
            have k1 : wr.cell? ⟨h, 1, none⟩ = some (.slice (some ⟨g5, 0, none⟩) m5 c5) := U.out.L.h.get 1 rfl
            have kf1 := U.out.L.h.frozen 1
            have hhr := U.out.L.h.lt
            have n0 : wr.cell? ⟨w7.heap.size + 1, 0, none⟩ = some (.int .i64 (s : Int)) := U.out.m.get 0 rfl
            have n1 : wr.cell? ⟨w7.heap.size + 1, 1, none⟩ = some (.int .i64 d2) := U.out.m.get 1 rfl
            have n2 : wr.cell? ⟨w7.heap.size + 1, 2, none⟩ = some (.bool d5) := U.out.m.get 2 rfl
            have n3 : wr.cell? ⟨w7.heap.size + 1, 3, none⟩ = some (.string T) := U.out.m.get 3 rfl
            have hml := U.out.m.lt
            have hbh := U.out.bh
            have hh3' : w.heap.size + 3 ≤ h := hh3
            have L9 := Lib.hid (U.out.L.put1 (P.out.lower (b := w.heap.size + 3) (by have := U.out.bn; omega)) hh3)
            have hlt9 := rest_less (c := c) HX.out
            rw [← HXC.out, HRS.out, ← HRE.out, hl9.out, hlm.out] at hlt9
            have HFS := Lib.hid (by have h := fit_step hF.out R ⟨d0, (s : Int), d2, d3, d4, d5, d6⟩; rw [HRS.out, ← HRE.out] at h; exact h : Fit (nextA nx ⟨d0, (s : Int), d2, d3, d4, d5, d6⟩) l9)
            have HRN := Lib.hid (by have h := (run_step (f := f) (said := ms) HD1.out HX.out).symm.trans hrun.out; rw [← HXC.out, (by unfold msgA; rw [HTX.out] : msgA l ⟨d0, (s : Int), d2, d3, d4, d5, d6⟩ R = ⟨(s : Int), d2, d5, T⟩), HRS.out, ← HRE.out] at h; exact h : runA f (nextA nx ⟨d0, (s : Int), d2, d3, d4, d5, d6⟩) l9 (ms ++ [⟨(s : Int), d2, d5, T⟩]) = (rz, rp, rm))
            have hnl8 : (nextA nx ⟨d0, (s : Int), d2, d3, d4, d5, d6⟩).length = n := by rw [nextA_len]; exact hnx.out
            have HNL := Lib.hid hnl8
            clear hnl8
            have n0' := far_cell n0 (p := ⟨h, 1, none⟩) (by show _ + _ ≠ h; omega) (.slice A9 m9 c9)
            have n1' := far_cell n1 (p := ⟨h, 1, none⟩) (by show _ + _ ≠ h; omega) (.slice A9 m9 c9)
            have n2' := far_cell n2 (p := ⟨h, 1, none⟩) (by show _ + _ ≠ h; omega) (.slice A9 m9 c9)
            have n3' := far_cell n3 (p := ⟨h, 1, none⟩) (by show _ + _ ≠ h; omega) (.slice A9 m9 c9)
            obtain ⟨j0, hj, hy0, hy1, hy2⟩ := info_parts info_msg
            have hLsz := L9.out.h.lt
            cases d5 with
            | true =>
              have L10 := Lib.hid (L9.out.alloc (.cells #[.int .i64 (s : Int), .int .i64 d2, .bool true, .string T] 64))
              have hsl := Lib.hid ((sl_new (w := (wr.setCell ⟨h, 1, none⟩ (.slice A9 m9 c9))) (cs := #[.int .i64 (s : Int), .int .i64 d2, .bool true, .string T]) (t := 64) (xs := msgs [⟨(s : Int), d2, true, T⟩]) rfl))
              simp only [World.size_setCell, World.size_drew] at hsl
              go_wp2_with (at_builtin; refine wpList_app _ rfl _ _ _ rfl (w.heap.size + 3) 64 j0 (.agg #[.int .i64 0, .int .i64 0, .bool false, .string ⟨#[]⟩]) 4 40 Try.underlying24 hj hy0 hy1 hy2 rfl (by decide) As q cs (msgs ms) rfl L10.out.s _ _ 1 1 (msgs [⟨(s : Int), d2, true, T⟩]) rfl hsl.out rfl (msgs_one _) (by unfold maxLen; omega) (by omega) (by have := L10.out.lt; omega) ?_; intro As2 cs2 row w9 o9 g9 r9 d9; rw [← msgs_app] at o9; have L11 := Lib.hid (L10.out.said g9 r9 o9); clear o9 g9 r9 d9)
              have hnx8 : nextA nx ⟨d0, (s : Int), d2, d3, d4, true, d6⟩ = nx := rfl
              rw [hnx8] at HNL HFS HRN
              refine ⟨⟨f, nx, l9, ms ++ [⟨(s : Int), d2, true, T⟩], A3, c3, A9, m9, c9, As2, q + 1, cs2, rfl, by omega, by omega, HNL, hl9, Lib.hid (by rw [List.length_append, hmq.out]; rfl), HFS, HRN, L11.out⟩, by simp [lenOf]; omega⟩
            | false =>
              obtain ⟨a3, rfl⟩ := L9.out.i.some_of (by omega : n ≠ 0)
              have htx := turn_next htn
              have r0 := U.out.L.i.cell s (ints_at_ htx)
              have rf := U.out.L.i.froz s
              have hrl := (U.out.L.i.blk _ rfl).2.1
              have hrb : a3 < w7.heap.size := U.out.bi _ rfl
              have hk3 : h ≠ a3 := fun e => U.out.L.i.ne_blk U.out.L.h (by decide) _ rfl e.symm
              have hsi : (0 : Int) ≤ (s : Int) := by omega
              have hsn' : (s : Int) < (n : Int) := by omega
              have L10' := Lib.hid (L9.out.setI s (sadd d2 1))
              go_wp2
              have k0' := drew_cell (L9.out.h.get 0 rfl)
              skip
              have s0 : ((wr.setCell ⟨h, 1, none⟩ (.slice A9 m9 c9)).cell? ⟨h, 0, none⟩) = some (.slice (some ⟨a3, 0, none⟩) n c3) := L9.out.h.get 0 rfl
              have r0' := far_cell r0 (p := ⟨h, 1, none⟩) (by show a3 ≠ h; exact fun e => hk3 e.symm) (.slice A9 m9 c9)
              have rf' := L9.out.i.froz s
              have hrl' := (L9.out.i.blk _ rfl).2.1
              have t0 := drewfar s0 (p := ⟨a3, s, none⟩) hk3 (.int .i64 (sadd d2 1))
              have t1 := drewfar n0' (p := ⟨a3, s, none⟩) (by show _ + _ ≠ a3; omega) (.int .i64 (sadd d2 1))
              refine wp_region_held_drew (S := fun w' => w'.cell? ⟨h, 0, none⟩ = some (.slice (some ⟨a3, 0, none⟩) n c3) ∧ w'.cell? ⟨w7.heap.size + 1, 0, none⟩ = some (.int .i64 (s : Int))) (by kernel_rfl) (by first | exact ⟨s0, n0'⟩) (fun hHeld => ?_)
              refine wpAnyH_take (i := 0) (oi := ⟨some 126, _, _, _, _, _⟩) (v := ?_) rfl (by kernel_rfl) (by kernel_rfl) (by kernel_rfl) (fun _ _ _ h => h) (Or.inl ⟨by kernel_rfl, ?y17⟩) (by assumption) ?_
              case y17 => (intro w hSw; (try dsimp only at hSw); first | (go_simp; done) | (go_simp; with_reducible rfl))
              simp only [Act.put, List.setIfInBounds_toArray, List.set_cons_zero, List.set_cons_succ]
              refine wpAnyH_take (i := 1) (oi := ⟨some 127, _, _, _, _, _⟩) (v := ?_) rfl (by kernel_rfl) (by kernel_rfl) (by kernel_rfl) (fun _ _ _ h => h) (Or.inl ⟨by kernel_rfl, ?y18⟩) (by assumption) ?_
              case y18 => (intro w hSw; (try dsimp only at hSw); first | (go_simp; done) | (go_simp; with_reducible rfl))
              simp only [Act.put, List.setIfInBounds_toArray, List.set_cons_zero, List.set_cons_succ]
              refine wpAnyH_take (i := 2) (oi := ⟨some 128, _, _, _, _, _⟩) (v := ?_) rfl (by kernel_rfl) (by kernel_rfl) (by kernel_rfl) (fun _ _ _ h => h) (Or.inl ⟨by kernel_rfl, ?y19⟩) (by assumption) ?_
              case y19 => (intro w hSw; (try dsimp only at hSw); first | (go_simp; done) | (go_simp; with_reducible rfl))
              simp only [Act.put, List.setIfInBounds_toArray, List.set_cons_zero, List.set_cons_succ]
              refine wpAnyH_take (i := 3) (oi := ⟨some 129, _, _, _, _, _⟩) (v := ?_) rfl (by kernel_rfl) (by kernel_rfl) (by kernel_rfl) (fun _ _ _ h => h) (Or.inl ⟨by kernel_rfl, ?y20⟩) (by assumption) ?_
              case y20 => (intro w hSw; (try dsimp only at hSw); first | (go_simp; done) | (go_simp; with_reducible rfl))
              simp only [Act.put, List.setIfInBounds_toArray, List.set_cons_zero, List.set_cons_succ]
              refine wpAnyH_take (i := 4) (oi := ⟨some 130, _, _, _, _, _⟩) (v := ?_) rfl (by kernel_rfl) (by kernel_rfl) (by kernel_rfl) (fun _ _ _ h => h) (Or.inl ⟨by kernel_rfl, ?y21⟩) (by assumption) ?_
              case y21 => (intro w hSw; (try dsimp only at hSw); first | (go_simp; done) | (go_simp; with_reducible rfl))
              simp only [Act.put, List.setIfInBounds_toArray, List.set_cons_zero, List.set_cons_succ]
              refine wpAnyH_take (i := 5) (oi := ⟨some 131, _, _, _, _, _⟩) (v := ?_) rfl (by kernel_rfl) (by kernel_rfl) (by kernel_rfl) (fun _ _ _ h => h) (Or.inl ⟨by kernel_rfl, ?y22⟩) (by assumption) ?_
              case y22 => (intro w hSw; (try dsimp only at hSw); first | (go_simp; done) | (go_simp; with_reducible rfl))
              simp only [Act.put, List.setIfInBounds_toArray, List.set_cons_zero, List.set_cons_succ]
              refine wpAnyH_take (i := 6) (oi := ⟨some 132, _, _, _, _, _⟩) (v := ?_) rfl (by kernel_rfl) (by kernel_rfl) (by kernel_rfl) (fun _ _ _ h => h) (Or.inl ⟨by kernel_rfl, ?y23⟩) (by assumption) ?_
              case y23 => (intro w hSw; (try dsimp only at hSw); first | (go_simp; done) | (go_simp; with_reducible rfl))
              simp only [Act.put, List.setIfInBounds_toArray, List.set_cons_zero, List.set_cons_succ]
              refine wpAnyH_take (i := 7) (oi := ⟨some 133, _, _, _, _, _⟩) (v := ?_) rfl (by kernel_rfl) (by kernel_rfl) (by kernel_rfl) (fun _ _ _ h => h) (Or.inl ⟨by kernel_rfl, ?y24⟩) (by assumption) ?_
              case y24 => (intro w hSw; (try dsimp only at hSw); first | (go_simp; done) | (go_simp; with_reducible rfl))
              simp only [Act.put, List.setIfInBounds_toArray, List.set_cons_zero, List.set_cons_succ]
              refine wpAnyH_take (i := 8) (oi := ⟨some 134, _, _, _, _, _⟩) (v := ?_) rfl (by kernel_rfl) (by kernel_rfl) (by kernel_rfl) (fun _ _ _ h => h) (Or.inl ⟨by kernel_rfl, ?y25⟩) (by assumption) ?_
              case y25 => (intro w hSw; (try dsimp only at hSw); first | (go_simp; done) | (go_simp; with_reducible rfl))
              simp only [Act.put, List.setIfInBounds_toArray, List.set_cons_zero, List.set_cons_succ]
              refine wpAnyH_ready (rs := [9]) (by kernel_rfl) (by simp) ?_
              refine AllReadyH.cons (o := ⟨some 135, _, _, _, _, _⟩) rfl (fun K hK => ?_) AllReadyH.nil
              go_simp
              refine hK.out _ _ (by first | exact ⟨s0, n0'⟩) (fun hHeld => ?_)
              clear hK K
              try simp only [Act.put, List.setIfInBounds_toArray, List.set_cons_zero, List.set_cons_succ]
              refine wpAnyH_ready (rs := [10]) (by kernel_rfl) (by simp) ?_
              refine AllReadyH.cons (o := ⟨some 136, _, _, _, _, _⟩) rfl (fun K hK => ?_) AllReadyH.nil
              go_simp
              (go_at_call 46; (with_reducible refine (iadd_any _ _ _).mono ?_); rintro e w5 ⟨rfl, rfl⟩)
              first | go_wp2_with fail | skip
              refine hK.out _ _ (by first | exact ⟨s0, n0'⟩) (fun hHeld => ?_)
              clear hK K
              try simp only [Act.put, List.setIfInBounds_toArray, List.set_cons_zero, List.set_cons_succ]
              refine wpAnyH_take (i := 11) (oi := ⟨some 137, _, _, _, _, _⟩) (v := ?_) rfl (by kernel_rfl) (by kernel_rfl) (by kernel_rfl) (fun _ _ _ h => h) (Or.inl ⟨by kernel_rfl, ?y26⟩) (by assumption) ?_
              case y26 => (intro w hSw; (try dsimp only at hSw); first | (go_simp; done) | (go_simp; with_reducible rfl))
              simp only [Act.put, List.setIfInBounds_toArray, List.set_cons_zero, List.set_cons_succ]
              refine wpAnyH_ready (rs := [12]) (by kernel_rfl) (by simp) ?_
              refine AllReadyH.cons (o := ⟨none, _, _, _, _, _⟩) rfl (fun K hK => ?_) AllReadyH.nil
              go_simp
              refine hK.out _ _ (by first | exact ⟨t0, t1⟩) (fun hHeld => ?_)
              clear hK K
              try simp only [Act.put, List.setIfInBounds_toArray, List.set_cons_zero, List.set_cons_succ]
              refine wpAnyH_done (by kernel_rfl) ?_ _
              have m0 := drewfar n0' (p := ⟨a3, s, none⟩) (by show _ + _ ≠ a3; omega) (.int .i64 (sadd d2 1))
              have m1 := drewfar n1' (p := ⟨a3, s, none⟩) (by show _ + _ ≠ a3; omega) (.int .i64 (sadd d2 1))
              have m2 := drewfar n2' (p := ⟨a3, s, none⟩) (by show _ + _ ≠ a3; omega) (.int .i64 (sadd d2 1))
              have m3 := drewfar n3' (p := ⟨a3, s, none⟩) (by show _ + _ ≠ a3; omega) (.int .i64 (sadd d2 1))
              clear t0 t1 s0 r0' rf' k0'
              have L10 := Lib.hid ((L10'.out.alloc (.cells #[.int .i64 (s : Int), .int .i64 d2, .bool false, .string T] 64)).drew)
              have hsl := Lib.hid (Sl.drew (sl_new (w := ((wr.setCell ⟨h, 1, none⟩ (.slice A9 m9 c9)).setCell ⟨a3, s, none⟩ (.int .i64 (sadd d2 1)))) (cs := #[.int .i64 (s : Int), .int .i64 d2, .bool false, .string T]) (t := 64) (xs := msgs [⟨(s : Int), d2, false, T⟩]) rfl))
              simp only [World.size_setCell, World.size_drew] at hsl
              go_wp2_with (at_builtin; refine wpList_app _ rfl _ _ _ rfl (w.heap.size + 3) 64 j0 (.agg #[.int .i64 0, .int .i64 0, .bool false, .string ⟨#[]⟩]) 4 40 Try.underlying24 hj hy0 hy1 hy2 rfl (by decide) As q cs (msgs ms) rfl L10.out.s _ _ 1 1 (msgs [⟨(s : Int), d2, false, T⟩]) rfl hsl.out rfl (msgs_one _) (by unfold maxLen; omega) (by omega) (by have := L10.out.lt; omega) ?_; intro As2 cs2 row w9 o9 g9 r9 d9; rw [← msgs_app] at o9; have L11 := Lib.hid (L10.out.said g9 r9 o9); clear o9 g9 r9 d9)
              have hnx8 : nextA nx ⟨d0, (s : Int), d2, d3, d4, false, d6⟩ = nx.set s (sadd d2 1) := rfl
              rw [hnx8] at HNL HFS HRN
              refine ⟨⟨f, nx.set s (sadd d2 1), l9, ms ++ [⟨(s : Int), d2, false, T⟩], (some ⟨a3, 0, none⟩), c3, A9, m9, c9, As2, q + 1, cs2, rfl, by omega, by omega, HNL, hl9, Lib.hid (by rw [List.length_append, hmq.out]; rfl), HFS, HRN, L11.out⟩, by simp [lenOf]; omega⟩
end Go.Proofs.Ytkhaodbcnnlhaaa
