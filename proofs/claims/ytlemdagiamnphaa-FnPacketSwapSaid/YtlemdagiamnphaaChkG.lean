/-
  What ChunkGet returns, in the program and in the reference. Conditions: the text is not too long, the place lies in it.
-/
import Derived.Test.YtlemdagiamnphaaChkP
import Derived.BigRegion
namespace Go.Proofs.Ytlemdagiamnphaa
open Go.ChangeShapes Go.WideShapes Go.ChangeAt Go.RowKit
set_option linter.unusedVariables false
set_option linter.unusedSimpArgs false

def GetP (c : Chk) (n : Int) (ok : Bool) (w : World) (e : Ending) (w' : World) : Prop := e = .returned (.tuple #[chkV c, .int .i64 n, .bool ok]) ∧ Below w.heap.size w w'
theorem drop_byte {s : ByteArray} {a W I : Nat} (h1 : a + W ≤ I) (h2 : I < s.size) : (((bl s).drop a).drop W)[I - (a + W)]? = some s[I] := by
  rw [List.drop_drop, List.getElem?_drop, show a + W + (I - (a + W)) = I from by omega, bl_get s I h2]
theorem zero_step {l : List UInt8} {k : Nat} {c : UInt8} (h : l.take k = zeros k) (hc : l[k]? = some c) (h0 : c.toNat = 0) : l.take (k + 1) = zeros (k + 1) := by
  rw [List.take_add_one, hc, h, zeros_snoc]
  have : c = 0 := UInt8.toNat_inj.1 (by rw [h0]; rfl)
  rw [this]
  rfl
theorem zero_not {l : List UInt8} {k n : Nat} {c : UInt8} (hk : k < n) (hc : l[k]? = some c) (h0 : c.toNat ≠ 0) : l.take n ≠ zeros n := by
  intro e
  have h1 := congrArg (fun x => x[k]?) e
  simp only [List.getElem?_take, hk, if_true, hc] at h1
  unfold zeros at h1
  rw [List.getElem?_replicate, if_pos hk] at h1
  injection h1 with h1
  rw [h1] at h0
  exact h0 rfl
theorem chunk_ext {s : ByteArray} {a W : Nat} (hW : W = wAt (bl s) (a + 2)) (h1 : a + W ≤ s.size) (h4 : 4 ≤ W) : chunkAt ((bl s).drop a) = ((bAt (bl s) a : Int), (bAt (bl s) (a + 1) : Int), s.extract (a + 4) (a + W)) := by
  unfold chunkAt
  rw [bAt_drop, bAt_drop, wAt_drop, ← hW, Nat.add_zero]
  refine Prod.ext rfl (Prod.ext rfl (bl_inj ?_))
  rw [bl_mk, bl_extract, List.drop_drop, show a + W - (a + 4) = W - 4 from by omega]
theorem raw_take {l : List UInt8} (h1 : 4 ≤ l.length) (h2 : 4 ≤ wAt l 2) (h3 : wAt l 2 ≤ 64) (h4 : wAt l 2 ≤ l.length) : chunkB (chunkAt l) = true ∧ chunkRaw (chunkAt l) = l.take (wAt l 2) ∧ (chunkAt l).2.2.size = wAt l 2 - 4 := by
  have b0 := bAt_lt l 0
  have b1 := bAt_lt l 1
  have hs : (mk ((l.drop 4).take (wAt l 2 - 4))).size = wAt l 2 - 4 := by rw [mk_size, List.length_take, List.length_drop]; omega
  refine ⟨chunkB_mk ⟨?_, ?_, ?_, ?_, ?_⟩, ?_, hs⟩
  · show (0 : Int) ≤ (bAt l 0 : Nat); omega
  · show ((bAt l 0 : Nat) : Int) ≤ 255; omega
  · show (0 : Int) ≤ (bAt l 1 : Nat); omega
  · show ((bAt l 1 : Nat) : Int) ≤ 255; omega
  · show (mk ((l.drop 4).take (wAt l 2 - 4))).size ≤ 60; omega
  · have hw : 4 + (chunkAt l).2.2.size = wAt l 2 := by
      show 4 + (mk ((l.drop 4).take (wAt l 2 - 4))).size = _
      omega
    unfold chunkRaw
    rw [hw]
    show [UInt8.ofNat ((bAt l 0 : Nat) : Int).toNat, UInt8.ofNat ((bAt l 1 : Nat) : Int).toNat] ++ word (wAt l 2) ++ (l.drop 4).take (wAt l 2 - 4) = _
    rw [Int.toNat_natCast, Int.toNat_natCast, show wAt l 2 = 4 + (wAt l 2 - 4) from by omega, List.take_add]
    rw [show 4 + (wAt l 2 - 4) - 4 = wAt l 2 - 4 from by omega]
    congr 1
    have e2 := word_wAt (l.drop 2) (by rw [List.length_drop]; omega)
    rw [wAt_drop] at e2
    rw [show 4 + (wAt l 2 - 4) = wAt l (2 + 0) from by simp; omega, e2, show (4 : Nat) = 2 + 2 from rfl, List.take_add]
    congr 1
    match l, h1 with
    | a :: b :: r, _ =>
      show [UInt8.ofNat a.toNat, UInt8.ofNat b.toNat] = [a, b]
      rw [u8_ofNat, u8_ofNat]
theorem put_cmp {s : ByteArray} {a W P : Nat} {c : Chk} (hc : chunkBytes c = ((bl s).drop a).take W ++ zeros P) (h : a + W + P ≤ s.size) :
    ((s.extract a (a + (W + P))).toList == (mk (chunkBytes c)).toList) = decide ((((bl s).drop a).drop W).take P = zeros P) := by
  rw [bl_toList, bl_toList, bl_mk, bl_extract, hc, Nat.add_sub_cancel_left, List.take_add]
  by_cases hz : (((bl s).drop a).drop W).take P = zeros P
  · rw [hz, decide_eq_true rfl]
    simp
  · rw [decide_eq_false hz, beq_eq_false_iff_ne]
    exact fun e => hz (List.append_cancel_left e)
set_option maxHeartbeats 3200000 in
set_option maxRecDepth 100000 in
theorem ichunk_get (s : ByteArray) (hs : s.size ≤ 1100000) (a : Nat) (ha : a ≤ s.size) (c : Chk) (n : Int) (ok : Bool)
    (hy : chunkOk ((bl s).drop a) → c = chunkAt ((bl s).drop a) ∧ n = ((a + chunkN ((bl s).drop a) : Nat) : Int) ∧ ok = true) (hn : ¬ chunkOk ((bl s).drop a) → c = (0, 0, ⟨#[]⟩) ∧ n = 0 ∧ ok = false) (w : World) :
    Calls Try.prog 29 #[.string s, .int .i64 a] w (GetP c n ok w) := by
  have hlen : ((bl s).drop a).length = s.size - a := by rw [List.length_drop, bl_len]
  by_cases h4 : s.size < a + 4
  · obtain ⟨rfl, rfl, rfl⟩ := hn (fun h => by have := h.1; omega)
    clear hy hn
    have h4' : (s.size : Int) - 4 < (a : Int) := by omega
    go_enter Try.func29, Try.ntmps29
    go_wp2
    go_returns
    exact ⟨rfl, by go_grown⟩
  · obtain ⟨W, hW⟩ : ∃ W, W = wAt (bl s) (a + 2) := ⟨_, rfl⟩
    have hWl : W < 65536 := by rw [hW]; exact wAt_lt _ _
    have eW : wAt ((bl s).drop a) 2 = W := by rw [wAt_drop, hW]
    have CW := Lib.hid (fun w => (by rw [hW]; have := iword_get s (a + 2) (by omega) (by omega) w; simpa using this : Calls Try.prog 28 #[.string s, .int .i64 ((a : Int) + 2)] w (Quiet (.tuple #[.int .i64 W, .bool true]) w)))
    have hw1 := IntWalk.i64_in ((a : Int) + 2) (by omega)
    have HX := Lib.hid (chunk_ext (s := s) (a := a) hW)
    clear hW
    by_cases hr : W < 4 ∨ 64 < W
    · obtain ⟨rfl, rfl, rfl⟩ := hn (fun h => by obtain ⟨_, g1, g2, _⟩ := h; rw [eW] at g1 g2; omega)
      clear hy hn
      rcases hr with hr | hr
      · go_enter Try.func29, Try.ntmps29
        go_wp2_with fail
        refine (CW.out _).mono ?_
        rintro e wa ⟨rfl, m1, rfl⟩
        have hr' : (W : Int) < 4 := by omega
        go_wp2
        go_returns
        exact ⟨rfl, (((below_drewN ((Below.refl _ w).alloc (Nat.le_refl _) _) _).setCell (Nat.le_refl _) _).setCell (Nat.le_refl _) _).setCell (Nat.le_refl _) _⟩
      · go_enter Try.func29, Try.ntmps29
        go_wp2_with fail
        refine (CW.out _).mono ?_
        rintro e wa ⟨rfl, m1, rfl⟩
        have hr' : ¬ (W : Int) < 4 := by omega
        have hr2 : (60 : Int) < (W : Int) - 4 := by omega
        go_wp2
        go_returns
        exact ⟨rfl, (((below_drewN ((Below.refl _ w).alloc (Nat.le_refl _) _) _).setCell (Nat.le_refl _) _).setCell (Nat.le_refl _) _).setCell (Nat.le_refl _) _⟩
    · obtain ⟨P, hP⟩ : ∃ P, P = pad W := ⟨_, rfl⟩
      have hPl : P < 4 := by rw [hP]; exact pad_lt _
      have hpd : ((W : Int) + 3) / 4 * 4 = (W : Int) + (P : Int) := by have := pad_end W; rw [hP]; omega
      have hr1 : ¬ (W : Int) < 4 := by omega
      have hr2 : ¬ (60 : Int) < (W : Int) - 4 := by omega
      have hw2 := IntWalk.i64_in ((W : Int) + 3) (by omega)
      have hw3 := IntWalk.i64_in ((W : Int) + (P : Int)) (by omega)
      have hw4 := IntWalk.i64_in ((a : Int) + ((W : Int) + (P : Int))) (by omega)
      have hw5 := IntWalk.i64_in ((a : Int) + (W : Int)) (by omega)
      by_cases he : s.size < a + W + P
      · obtain ⟨rfl, rfl, rfl⟩ := hn (fun h => by obtain ⟨_, _, _, g, _⟩ := h; rw [eW, ← hP] at g; omega)
        clear hy hn
        go_enter Try.func29, Try.ntmps29
        go_wp2_with fail
        refine (CW.out _).mono ?_
        rintro e wa ⟨rfl, m1, rfl⟩
        have he' : (s.size : Int) < (a : Int) + ((W : Int) + (P : Int)) := by omega
        go_wp2
        go_returns
        exact ⟨rfl, (((below_drewN ((Below.refl _ w).alloc (Nat.le_refl _) _) _).setCell (Nat.le_refl _) _).setCell (Nat.le_refl _) _).setCell (Nat.le_refl _) _⟩
      · have HY := Lib.hid hy
        have HN := Lib.hid hn
        have HP := Lib.hid hP
        clear hy hn hP
        have he' : ¬ (s.size : Int) < (a : Int) + ((W : Int) + (P : Int)) := by omega
        go_enter Try.func29, Try.ntmps29
        go_wp2_with fail
        refine (CW.out _).mono ?_
        rintro e wa ⟨rfl, m1, rfl⟩
        have Q0 := Lib.hid ((Blk.new w #[.int .i64 0, .int .i64 0, .string ⟨#[]⟩] 46).drewN m1)
        have B0 := Lib.hid (below_drewN ((Below.refl w.heap.size w).alloc (Nat.le_refl _) (.cells #[.int .i64 0, .int .i64 0, .string ⟨#[]⟩] 46)) m1)
        generalize (w.alloc (.cells #[.int .i64 0, .int .i64 0, .string ⟨#[]⟩] 46)).drewN m1 = w1 at Q0 B0 ⊢
        have x0 : w1.cell? ⟨w.heap.size, 0, none⟩ = some (.int .i64 0) := Q0.out.get 0 rfl
        have x1 : w1.cell? ⟨w.heap.size, 1, none⟩ = some (.int .i64 0) := Q0.out.get 1 rfl
        have x2 : w1.cell? ⟨w.heap.size, 2, none⟩ = some (.string ⟨#[]⟩) := Q0.out.get 2 rfl
        have f0 := Q0.out.frozen 0
        have f1 := Q0.out.frozen 1
        have f2 := Q0.out.frozen 2
        have hl1 := Q0.out.lt
        go_wp2
        go_loopw [10] (fun i wr => ∃ I : Nat, i = .int .i64 I ∧ a + W ≤ I ∧ I ≤ a + W + P ∧ Hid ((((bl s).drop a).drop W).take (I - (a + W)) = zeros (I - (a + W))) ∧ wr = w1) (fun i _ => s.size + 1 - (intOf i).toNat)
        case atStart => exact ⟨a + W, by go_num, Nat.le_refl _, by omega, Lib.hid (by rw [Nat.sub_self]; simp [zeros]), by first | rfl | trivial⟩
        case round =>
          obtain ⟨I, rfl, hI1, hI2, hZ, rfl⟩ := hrel
          by_cases hlt : I < a + W + P
          · have hI0 : (0 : Int) ≤ (I : Int) := by omega
            have hIs : (I : Int) < (s.size : Int) := by omega
            have hlt' : (I : Int) < (a : Int) + ((W : Int) + (P : Int)) := by omega
            have hby := drop_byte (a := a) (W := W) hI1 (show I < s.size by omega)
            by_cases hz : s[I].toNat = 0
            · have HZ2 := Lib.hid (zero_step hZ.out hby hz)
              have e0 : ((s[I].toNat : Int) == 0) = true := by simp; omega
              have hw6 := IntWalk.i64_in ((I : Int) + 1) (by omega)
              clear hby hz hZ
              go_wp2
              go_roundw
              case rel => exact ⟨I + 1, by go_num, by omega, by omega, Lib.hid (by rw [show I + 1 - (a + W) = I - (a + W) + 1 from by omega]; exact HZ2.out), by first | rfl | trivial⟩
              case measure => simp [intOf]; omega
            · have e0 : ((s[I].toNat : Int) == 0) = false := by simp; omega
              obtain ⟨rfl, rfl, rfl⟩ := HN.out (fun h => by
                obtain ⟨_, _, _, _, g⟩ := h
                rw [eW, ← HP.out] at g
                exact zero_not (by omega) hby hz g)
              clear hby hz hZ
              go_wp2
              refine bodyPost_ret (v := .tuple #[chkV (0, 0, ⟨#[]⟩), .int .i64 0, .bool false]) (by simp [results, Try.results29, go_sem, x0, x1, x2, hl1, chkV]) rfl ⟨rfl, ?_⟩
              exact ((B0.out.setCell (Nat.le_refl _) _).setCell (Nat.le_refl _) _).setCell (Nat.le_refl _) _
          · obtain rfl : I = a + W + P := by omega
            obtain ⟨rfl, rfl, rfl⟩ := HY.out (by
              refine ⟨by omega, by rw [eW]; omega, by rw [eW]; omega, by rw [eW, ← HP.out]; omega, ?_⟩
              rw [eW, ← HP.out]
              have := hZ.out
              rwa [Nat.add_sub_cancel_left] at this)
            have HC := Lib.hid (HX.out (by omega) (by omega))
            have HB0 := Lib.hid (bAt_get s a (by omega))
            have HB1 := Lib.hid (bAt_get s (a + 1) (by omega))
            have i0 : (0 : Int) ≤ (a : Int) := by omega
            have i1 : (a : Int) < (s.size : Int) := by omega
            have i2 : (0 : Int) ≤ (a : Int) + 1 := by omega
            have i3 : (a : Int) + 1 < (s.size : Int) := by omega
            have i4 : (0 : Int) ≤ (a : Int) + 4 := by omega
            have i5 : (a : Int) + 4 ≤ (a : Int) + (W : Int) := by omega
            have i6 : (a : Int) + (W : Int) ≤ (s.size : Int) := by omega
            have hw6 := IntWalk.i64_in ((a : Int) + 1) (by omega)
            have hw7 := IntWalk.i64_in ((a : Int) + 4) (by omega)
            clear hZ
            go_wp2
            go_region
            go_wp2
            refine bodyPost_ret (v := .tuple #[.agg #[.int .i64 (wrap64 (s[a].toNat : Int)), .int .i64 (wrap64 (s[a + 1].toNat : Int)), .string (s.extract (a + 4) (a + W))], .int .i64 ((a : Int) + ((W : Int) + (P : Int))), .bool true]) (by simp [results, Try.results29, go_sem, x0, x1, x2, hl1]) rfl ⟨?_, ?_⟩
            · have l0 := UInt8.toNat_lt s[a]
              have l1 := UInt8.toNat_lt s[a + 1]
              have hN : ((a + chunkN ((bl s).drop a) : Nat) : Int) = (a : Int) + ((W : Int) + (P : Int)) := by unfold chunkN; rw [eW, ← HP.out]; omega
              rw [HC.out, hN, HB0.out, HB1.out]
              rw [w64 (x := (s[a].toNat : Int)) (by omega) (by omega), w64 (x := (s[a + 1].toNat : Int)) (by omega) (by omega)]
            · exact (((B0.out.setCell (Nat.le_refl _) _).setCell (Nat.le_refl _) _).setCell (Nat.le_refl _) _).drew
end Go.Proofs.Ytlemdagiamnphaa
