/-
  What the reference's ChunkGet returns. Conditions: the text is not too long, the place lies in it.
-/
import Derived.Test.YtlemdagiamnphaaChkG
namespace Go.Proofs.Ytlemdagiamnphaa
open Go.ChangeShapes Go.WideShapes Go.ChangeAt Go.RowKit
set_option linter.unusedVariables false
set_option linter.unusedSimpArgs false

theorem w64n {k : Nat} (h : k < 2 ^ 8) : wrap64 (k : Int) = k := w64 (by omega) (by omega)
theorem i64n {k : Nat} (h : k < 2 ^ 8) : IntKind.i64.wrap (k : Int) = k := IntWalk.i64_in _ (by omega)
set_option maxHeartbeats 3200000 in
set_option maxRecDepth 100000 in
theorem schunk_get (s : ByteArray) (hs : s.size ≤ 1100000) (a : Nat) (ha : a ≤ s.size) (c : Chk) (n : Int) (ok : Bool)
    (hy : chunkOk ((bl s).drop a) → c = chunkAt ((bl s).drop a) ∧ n = ((a + chunkN ((bl s).drop a) : Nat) : Int) ∧ ok = true) (hn : ¬ chunkOk ((bl s).drop a) → c = (0, 0, ⟨#[]⟩) ∧ n = 0 ∧ ok = false) (w : World) :
    Calls Try.prog 32 #[.string s, .int .i64 a] w (GetP c n ok w) := by
  have hlen : ((bl s).drop a).length = s.size - a := by rw [List.length_drop, bl_len]
  by_cases h4 : s.size < a + 4
  · obtain ⟨rfl, rfl, rfl⟩ := hn (fun h => by have := h.1; omega)
    clear hy hn
    have h4' : (s.size : Int) - 4 < (a : Int) := by omega
    go_enter Try.func32, Try.ntmps32
    go_wp2
    go_returns
    exact ⟨rfl, by go_grown⟩
  · obtain ⟨W, hW⟩ : ∃ W, W = wAt (bl s) (a + 2) := ⟨_, rfl⟩
    have hWl : W < 65536 := by rw [hW]; exact wAt_lt _ _
    have eW : wAt ((bl s).drop a) 2 = W := by rw [wAt_drop, hW]
    have CW := Lib.hid (fun w => (by rw [hW]; have := l1at s (a + 2) (by omega) (by omega) w; simpa using this : Calls Try.prog 31 #[.string s, .int .i64 ((a : Int) + 2)] w (Quiet (.int .i64 W) w)))
    have hw1 := IntWalk.i64_in ((a : Int) + 2) (by omega)
    have HX := Lib.hid (chunk_ext (s := s) (a := a) hW)
    clear hW
    by_cases hr : W < 4 ∨ 64 < W
    · obtain ⟨rfl, rfl, rfl⟩ := hn (fun h => by obtain ⟨_, g1, g2, _⟩ := h; rw [eW] at g1 g2; omega)
      clear hy hn
      have hin : inB (W : Int) 4 64 = false := inB_no (by omega)
      go_enter Try.func32, Try.ntmps32
      go_wp2_with fail
      refine (CW.out _).mono ?_
      rintro e wa ⟨rfl, m1, rfl⟩
      go_wp2_with (go_at_call 49; refine (in_any _ _ _ _).mono ?_; rintro e w' ⟨rfl, rfl⟩)
      go_returns
      exact ⟨rfl, (((below_drewN ((Below.refl _ w).alloc (Nat.le_refl _) _) _).setCell (Nat.le_refl _) _).setCell (Nat.le_refl _) _).setCell (Nat.le_refl _) _⟩
    · have hin : inB (W : Int) 4 64 = true := inB_mk (by omega)
      have hw5 := IntWalk.i64_in ((a : Int) + (W : Int)) (by omega)
      by_cases he : s.size < a + W
      · obtain ⟨rfl, rfl, rfl⟩ := hn (fun h => by obtain ⟨_, _, _, g, _⟩ := h; rw [eW] at g; omega)
        clear hy hn
        have he' : (s.size : Int) < (a : Int) + (W : Int) := by omega
        go_enter Try.func32, Try.ntmps32
        go_wp2_with fail
        refine (CW.out _).mono ?_
        rintro e wa ⟨rfl, m1, rfl⟩
        go_wp2_with (go_at_call 49; refine (in_any _ _ _ _).mono ?_; rintro e w' ⟨rfl, rfl⟩)
        go_returns
        exact ⟨rfl, (((below_drewN ((Below.refl _ w).alloc (Nat.le_refl _) _) _).setCell (Nat.le_refl _) _).setCell (Nat.le_refl _) _).setCell (Nat.le_refl _) _⟩
      · have he' : ¬ (s.size : Int) < (a : Int) + (W : Int) := by omega
        obtain ⟨P, hP⟩ : ∃ P, P = pad W := ⟨_, rfl⟩
        have hPl : P < 4 := by rw [hP]; exact pad_lt _
        obtain ⟨g1, g2, g3⟩ := raw_take (l := (bl s).drop a) (by omega) (by rw [eW]; omega) (by rw [eW]; omega) (by rw [eW]; omega)
        have HC := HX.out (by omega) (by omega)
        have ia : a < s.size := by omega
        have ib : a + 1 < s.size := by omega
        have hb0 := bAt_get s a ia
        have hb1 := bAt_get s (a + 1) ib
        rw [hb0, hb1] at HC
        have l0 := UInt8.toNat_lt (s[a]'ia)
        have l1 := UInt8.toNat_lt (s[a + 1]'ib)
        obtain ⟨K, hK⟩ : ∃ K, (s[a]'ia).toNat = K := ⟨_, rfl⟩
        obtain ⟨F, hF⟩ : ∃ F, (s[a + 1]'ib).toNat = F := ⟨_, rfl⟩
        rw [hK, hF] at HC
        rw [hK] at l0
        rw [hF] at l1
        clear hb0 hb1
        rw [eW] at g2 g3
        have hbytes : chunkBytes (chunkAt ((bl s).drop a)) = ((bl s).drop a).take W ++ zeros P := by
          unfold chunkBytes
          rw [g2, g3, hP, show 4 + (W - 4) = W from by omega]
        rw [HC] at g1 hbytes
        obtain ⟨T, hT⟩ : ∃ T, T = mk (chunkBytes ((K : Int), (F : Int), s.extract (a + 4) (a + W))) := ⟨_, rfl⟩
        have hTs : T.size = W + P := by rw [hT, mk_size, hbytes, List.length_append, List.length_take]; unfold zeros; rw [List.length_replicate]; omega
        have LP := Lib.hid (fun w => (by rw [hT]; exact l11put _ _ _ g1 w : Calls Try.prog 50 #[.agg #[.int .i64 (K : Int), .int .i64 (F : Int), .string (s.extract (a + 4) (a + W))]] w fun e w' => e = .returned (.string T) ∧ Below w.heap.size w w'))
        have HCmp := Lib.hid (fun h => put_cmp (s := s) (a := a) (W := W) (P := P) hbytes h)
        rw [← hT] at HCmp
        have HY := Lib.hid hy
        have HN := Lib.hid hn
        have HP := Lib.hid hP
        have HCC := Lib.hid HC
        have i0 : (0 : Int) ≤ (a : Int) := by omega
        have i1 : (a : Int) < (s.size : Int) := by omega
        have i2 : (0 : Int) ≤ (a : Int) + 1 := by omega
        have i3 : (a : Int) + 1 < (s.size : Int) := by omega
        have i4 : (0 : Int) ≤ (a : Int) + 4 := by omega
        have i5 : (a : Int) + 4 ≤ (a : Int) + (W : Int) := by omega
        have i6 : (a : Int) + (W : Int) ≤ (s.size : Int) := by omega
        have hw6 := IntWalk.i64_in ((a : Int) + 1) (by omega)
        have hw7 := IntWalk.i64_in ((a : Int) + 4) (by omega)
        have u0 := w64n l0
        have u1 := w64n l1
        have u2 := i64n l0
        have u3 := i64n l1
        clear hy hn hP g1 g2 g3 hbytes hT HC
        go_enter Try.func32, Try.ntmps32
        go_wp2_with fail
        refine (CW.out _).mono ?_
        rintro e wa ⟨rfl, m1, rfl⟩
        have Q0 := Lib.hid ((Blk.new w #[.int .i64 0, .int .i64 0, .string ⟨#[]⟩] 46).drewN m1)
        have B0 := Lib.hid (below_drewN ((Below.refl w.heap.size w).alloc (Nat.le_refl _) (.cells #[.int .i64 0, .int .i64 0, .string ⟨#[]⟩] 46)) m1)
        generalize (w.alloc (.cells #[.int .i64 0, .int .i64 0, .string ⟨#[]⟩] 46)).drewN m1 = w1 at Q0 B0 ⊢
        have hl1 := Q0.out.lt
        go_wp2_with (go_at_call 49; refine (in_any _ _ _ _).mono ?_; rintro e w' ⟨rfl, rfl⟩)
        go_region
        go_wp2_with fail
        clear i2 i3 i4 i5 hw1 hw6 hw7 u0 u1 u2 u3 hin l0 l1
        refine (LP.out _).mono ?_
        rintro e w2 ⟨rfl, b2⟩
        have Q2 := Lib.hid ((((Blk.new w1 #[.int .i64 (K : Int), .int .i64 (F : Int), .string (s.extract (a + 4) (a + W))] 46).drew)).below b2 (by simp))
        have Q02 := Lib.hid ((Q0.out.alloc (.cells #[.int .i64 (K : Int), .int .i64 (F : Int), .string (s.extract (a + 4) (a + W))] 46)).drew.below b2 (by simp; omega))
        have B2 := Lib.hid (bstep (B0.out.alloc B0.out.size (.cells #[.int .i64 (K : Int), .int .i64 (F : Int), .string (s.extract (a + 4) (a + W))] 46)).drew b2 (by have := B0.out.size; simp; omega))
        have x0 : w2.cell? ⟨w.heap.size, 0, none⟩ = some (.int .i64 0) := Q02.out.get 0 rfl
        have x1 : w2.cell? ⟨w.heap.size, 1, none⟩ = some (.int .i64 0) := Q02.out.get 1 rfl
        have x2 : w2.cell? ⟨w.heap.size, 2, none⟩ = some (.string ⟨#[]⟩) := Q02.out.get 2 rfl
        have f0 := Q02.out.frozen 0
        have f1 := Q02.out.frozen 1
        have f2 := Q02.out.frozen 2
        have y0 : w2.cell? ⟨w1.heap.size, 0, none⟩ = some (.int .i64 (K : Int)) := Q2.out.get 0 rfl
        have y1 : w2.cell? ⟨w1.heap.size, 1, none⟩ = some (.int .i64 (F : Int)) := Q2.out.get 1 rfl
        have y2 : w2.cell? ⟨w1.heap.size, 2, none⟩ = some (.string (s.extract (a + 4) (a + W))) := Q2.out.get 2 rfl
        have hl2 := Q02.out.lt
        have hl3 := Q2.out.lt
        clear b2 LP
        have hw8 := IntWalk.i64_in ((a : Int) + ((W : Int) + (P : Int))) (by omega)
        by_cases hbig : s.size < a + W + P
        · obtain ⟨rfl, rfl, rfl⟩ := HN.out (fun h => by obtain ⟨_, _, _, g, _⟩ := h; rw [eW, ← HP.out] at g; omega)
          have hb' : (s.size : Int) < (a : Int) + ((W : Int) + (P : Int)) := by omega
          clear HY HN HCmp HCC HX
          go_wp2
          refine bodyPost_ret (v := .tuple #[chkV (0, 0, ⟨#[]⟩), .int .i64 0, .bool false]) (by simp [results, Try.results32, go_sem, x0, x1, x2, hl2, chkV]) rfl ⟨rfl, ?_⟩
          exact ((B2.out.setCell (Nat.le_refl _) _).setCell (Nat.le_refl _) _).setCell (Nat.le_refl _) _
        · have hb' : ¬ (s.size : Int) < (a : Int) + ((W : Int) + (P : Int)) := by omega
          have j1 : (a : Int) ≤ (a : Int) + ((W : Int) + (P : Int)) := by omega
          have j2 : (a : Int) + ((W : Int) + (P : Int)) ≤ (s.size : Int) := by omega
          have hcmp := HCmp.out (by omega)
          by_cases hz : (((bl s).drop a).drop W).take P = zeros P
          · rw [decide_eq_true hz] at hcmp
            obtain ⟨rfl, rfl, rfl⟩ := HY.out (by
              refine ⟨by omega, by rw [eW]; omega, by rw [eW]; omega, by rw [eW, ← HP.out]; omega, ?_⟩
              rw [eW, ← HP.out]
              exact hz)
            clear HY HN HCmp HX hz
            go_wp2
            refine bodyPost_ret (v := .tuple #[chkV ((K : Int), (F : Int), s.extract (a + 4) (a + W)), .int .i64 ((a : Int) + ((W : Int) + (P : Int))), .bool true]) (by simp [results, Try.results32, go_sem, x0, x1, x2, y0, y1, y2, hl2, hl3, chkV]) rfl ⟨?_, ?_⟩
            · have hN : ((a + chunkN ((bl s).drop a) : Nat) : Int) = (a : Int) + ((W : Int) + (P : Int)) := by unfold chunkN; rw [eW, ← HP.out]; omega
              rw [HCC.out, hN]
            · exact ((B2.out.setCell (Nat.le_refl _) _).setCell (Nat.le_refl _) _).setCell (Nat.le_refl _) _
          · rw [decide_eq_false hz] at hcmp
            obtain ⟨rfl, rfl, rfl⟩ := HN.out (fun h => by
              obtain ⟨_, _, _, _, g⟩ := h
              rw [eW, ← HP.out] at g
              exact hz g)
            clear HY HN HCmp HX hz HCC
            go_wp2
            refine bodyPost_ret (v := .tuple #[chkV (0, 0, ⟨#[]⟩), .int .i64 0, .bool false]) (by simp [results, Try.results32, go_sem, x0, x1, x2, hl2, chkV]) rfl ⟨rfl, ?_⟩
            exact ((B2.out.setCell (Nat.le_refl _) _).setCell (Nat.le_refl _) _).setCell (Nat.le_refl _) _
end Go.Proofs.Ytlemdagiamnphaa
