/-
  What the program's PacketGet returns. Condition: the text is not too long.
-/
import Derived.Test.YtlemdagiamnphaaPkG0
import Derived.Test.YtlemdagiamnphaaPkQ
import Derived.Test.YtlemdagiamnphaaChkG
import Derived.Test.YtlemdagiamnphaaAppend
import Derived.Deep.RegionWith
namespace Go.Proofs.Ytlemdagiamnphaa
open Go.ChangeShapes Go.WideShapes Go.ChangeAt Go.RowKit
set_option linter.unusedVariables false
set_option linter.unusedSimpArgs false

theorem sl_new1 {w : World} {o : Obj} {cs : Array Value} {t : TypeId} {xs : List Value} (h : cs.toList = xs) : Sl ((w.alloc o).alloc (.cells cs t)) (w.heap.size + 2) (some ⟨w.heap.size + 1, 0, none⟩) xs := by
  have := sl_new (w := w.alloc o) (t := t) h
  simpa using this
set_option maxHeartbeats 3200000 in
set_option maxRecDepth 100000 in
theorem ipack_get (s : ByteArray) (hs : s.size ≤ 1050000) (f t g : Int) (cs : List Chk) (k : Int) (h : gotten (bl s) = (f, t, g, cs, k)) (w : World) : Calls Try.prog 11 #[.string s] w (PackG f t g cs k w) := by
  obtain ⟨i0, hi, hz0, hz1, hz2⟩ := info_parts info_chk
  have H := Lib.hid h
  clear h
  have hlen := bl_len s
  by_cases h12 : s.size < 12
  · obtain ⟨rfl, rfl, rfl, rfl, hk⟩ := gotten_no H.out (by rw [code_short (by omega)]; omega)
    rw [code_short (by omega)] at hk
    subst hk
    go_enter Try.func11, Try.ntmps11
    go_wp2
    go_returns
    exact ⟨none, 0, rfl, Own.nil _ _ _ _, by go_grown⟩
  · have i1 : (0 : Int) ≤ 8 := by omega
    have i2 : (8 : Int) ≤ (s.size : Int) := by omega
    have i3 : (0 : Int) ≤ 12 := by omega
    have i4 : (12 : Int) ≤ (s.size : Int) := by omega
    obtain ⟨L8, hL8⟩ : ∃ x, x = lAt (bl s) 8 := ⟨_, rfl⟩
    obtain ⟨GS, hGS⟩ : ∃ x, x = getSum (bl s) := ⟨_, rfl⟩
    have C8 := Lib.hid (fun w => quiet_b (by rw [hL8]; have := ilong_get s 8 (by omega) (by omega) w; simpa using this : Calls Try.prog 26 #[.string s, .int .i64 8] w (Quiet (.tuple #[.int .i64 L8, .bool true]) w)))
    have z1 : (s.extract 0 8).size = 8 := by rw [ByteArray.size_extract]; omega
    have z2 : (s.extract 12 s.size).size = s.size - 12 := by rw [ByteArray.size_extract]; omega
    have z3 : (⟨#[0, 0, 0, 0]⟩ : ByteArray).size = 4 := rfl
    have z4 := bsize (s.extract 0 8) ⟨#[0, 0, 0, 0]⟩
    have z5 := bsize (s.extract 0 8 ++ ⟨#[0, 0, 0, 0]⟩) (s.extract 12 s.size)
    have hA1 := fun w : World => run_string_add_sum (P := Try.prog) (w := w) (s.extract 0 8) ⟨#[0, 0, 0, 0]⟩ (by omega)
    have hA2 := fun w : World => run_string_add_sum (P := Try.prog) (w := w) (s.extract 0 8 ++ ⟨#[0, 0, 0, 0]⟩) (s.extract 12 s.size) (by omega)
    have ST := Lib.hid (fun w => quiet_b (by
      have := isum_text (s.extract 0 8 ++ ⟨#[0, 0, 0, 0]⟩ ++ s.extract 12 s.size) (by omega) w
      rw [sum_split s (by omega)] at this
      rw [hGS]
      exact this : Calls Try.prog 27 #[.string (s.extract 0 8 ++ ⟨#[0, 0, 0, 0]⟩ ++ s.extract 12 s.size)] w (Quiet (.int .i64 (GS : Int)) w)))
    have hB : ¬ ((9223372036854775807 : Nat) < 8 + 4 + (s.size - 12)) := by omega
    have Q0 := Lib.hid (Blk.new w #[.int .i64 0, .int .i64 0, .int .i64 0, .slice none 0 0] 26)
    have B0 := Lib.hid ((Below.refl w.heap.size w).alloc (Nat.le_refl _) (.cells #[.int .i64 0, .int .i64 0, .int .i64 0, .slice none 0 0] 26))
    have HL8 := Lib.hid hL8
    have HGS := Lib.hid hGS
    clear z4 z5 hL8 hGS
    go_enter Try.func11, Try.ntmps11
    go_wp2_with fail
    refine (C8.out _).mono ?_
    rintro e w1 ⟨rfl, b1⟩
    have Q1 := Lib.hid (Q0.out.below b1 (by simp))
    have B1 := Lib.hid (bstep B0.out b1 B0.out.size)
    clear b1
    go_wp2
    go_region_with (first | (go_at_call 27; refine (ST.out _).mono ?_; rintro e w2 ⟨rfl, b2⟩; have Q2 := Lib.hid (Q1.out.drew.below b2 Q1.out.lt); have B2 := Lib.hid (bstep B1.out.drew b2 B1.out.size); clear b2))
    have x0 : w2.cell? ⟨w.heap.size, 0, none⟩ = some (.int .i64 0) := Q2.out.get 0 rfl
    have x1 : w2.cell? ⟨w.heap.size, 1, none⟩ = some (.int .i64 0) := Q2.out.get 1 rfl
    have x2 : w2.cell? ⟨w.heap.size, 2, none⟩ = some (.int .i64 0) := Q2.out.get 2 rfl
    have x3 : w2.cell? ⟨w.heap.size, 3, none⟩ = some (.slice none 0 0) := Q2.out.get 3 rfl
    have hl2 := Q2.out.lt
    have fr0 := Q2.out.frozen 0
    have fr1 := Q2.out.frozen 1
    have fr2 := Q2.out.frozen 2
    have fr3 := Q2.out.frozen 3
    clear hA1 hA2 hB z1 z2 z3
    by_cases hsum : GS = L8
    case neg =>
      have e0 : ((GS : Int) == (L8 : Int)) = false := by simp; omega
      have hc := code_sum (l := bl s) (by omega) (by rw [← HL8.out, ← HGS.out]; exact fun e => hsum e.symm)
      obtain ⟨rfl, rfl, rfl, rfl, hk⟩ := gotten_no H.out (by rw [hc]; omega)
      rw [hc] at hk
      subst hk
      clear hsum
      go_wp2
      refine bodyPost_ret (v := .tuple #[.agg #[.int .i64 0, .int .i64 0, .int .i64 0, .slice none 0 0], .int .i64 2]) (by simp [results, Try.results11, go_sem, x0, x1, x2, x3, hl2]) rfl ⟨none, 0, rfl, Own.nil _ _ _ _, ?_⟩
      exact (((B2.out.setCell (Nat.le_refl _) _).setCell (Nat.le_refl _) _).setCell (Nat.le_refl _) _).setCell (Nat.le_refl _) _
    have e0 : ((GS : Int) == (L8 : Int)) = true := by simp; omega
    have HSM := Lib.hid (show lAt (bl s) 8 = getSum (bl s) from by rw [← HL8.out, ← HGS.out, hsum])
    clear HL8 HGS ST C8
    obtain ⟨W0, hW0⟩ : ∃ x, x = wAt (bl s) 0 := ⟨_, rfl⟩
    obtain ⟨W2, hW2⟩ : ∃ x, x = wAt (bl s) 2 := ⟨_, rfl⟩
    obtain ⟨L4, hL4⟩ : ∃ x, x = lAt (bl s) 4 := ⟨_, rfl⟩
    have C0 := Lib.hid (fun w => quiet_b (by rw [hW0]; have := iword_get s 0 (by omega) (by omega) w; simpa using this : Calls Try.prog 28 #[.string s, .int .i64 0] w (Quiet (.tuple #[.int .i64 W0, .bool true]) w)))
    have C2 := Lib.hid (fun w => quiet_b (by rw [hW2]; have := iword_get s 2 (by omega) (by omega) w; simpa using this : Calls Try.prog 28 #[.string s, .int .i64 2] w (Quiet (.tuple #[.int .i64 W2, .bool true]) w)))
    have C4 := Lib.hid (fun w => quiet_b (by rw [hL4]; have := ilong_get s 4 (by omega) (by omega) w; simpa using this : Calls Try.prog 26 #[.string s, .int .i64 4] w (Quiet (.tuple #[.int .i64 L4, .bool true]) w)))
    have HW := Lib.hid (show fromOf (bl s) = (W0 : Int) ∧ toOf (bl s) = (W2 : Int) ∧ tagOf (bl s) = (L4 : Int) from ⟨by rw [hW0]; rfl, by rw [hW2]; rfl, by rw [hL4]; rfl⟩)
    clear hW0 hW2 hL4 x0 x1 x2 x3 fr0 fr1 fr2 fr3
    go_wp2_with fail
    refine (C0.out _).mono ?_
    rintro e w3 ⟨rfl, b3'⟩
    obtain ⟨q3, z3, b3⟩ := boxed b3'
    have P3 := Lib.hid q3
    have Q3 := Lib.hid (Q2.out.below b3 Q2.out.lt)
    have B3 := Lib.hid (bstep B2.out b3 B2.out.size)
    have y0 : w3.cell? ⟨w2.heap.size, 0, none⟩ = some (.int .i64 0) := q3.get 0 rfl
    have yf0 := q3.frozen 0
    clear b3 b3' q3
    go_wp2_with fail
    refine (C2.out _).mono ?_
    rintro e w4 ⟨rfl, b4⟩
    have P4 := Lib.hid (show Blk w4 w2.heap.size #[.int .i64 (W0 : Int), .int .i64 0, .int .i64 0, .slice none 0 0] 26 from by simpa using (P3.out.set_ 0 (.int .i64 (W0 : Int))).below b4 (by simpa using P3.out.lt))
    have Q4 := Lib.hid ((Q3.out.far (Nat.ne_of_lt hl2) _).below b4 (by simpa using Q3.out.lt))
    have B4 := Lib.hid (bstep (B3.out.setCell (Nat.le_of_lt hl2) _) b4 (by simpa using B3.out.size))
    have y4 : w4.cell? ⟨w2.heap.size, 1, none⟩ = some (.int .i64 0) := P4.out.get 1 rfl
    have yf4 := P4.out.frozen 1
    clear b4
    clear y0 yf0
    go_wp2_with fail
    refine (C4.out _).mono ?_
    rintro e w5 ⟨rfl, b5⟩
    have P5 := Lib.hid (show Blk w5 w2.heap.size #[.int .i64 (W0 : Int), .int .i64 (W2 : Int), .int .i64 0, .slice none 0 0] 26 from by simpa using (P4.out.set_ 1 (.int .i64 (W2 : Int))).below b5 (by simpa using P4.out.lt))
    have Q5 := Lib.hid ((Q4.out.far (Nat.ne_of_lt hl2) _).below b5 (by simpa using Q4.out.lt))
    have B5 := Lib.hid (bstep (B4.out.setCell (Nat.le_of_lt hl2) _) b5 (by simpa using B4.out.size))
    have y5 : w5.cell? ⟨w2.heap.size, 2, none⟩ = some (.int .i64 0) := P5.out.get 2 rfl
    have yf5 := P5.out.frozen 2
    clear b5
    clear y4 yf4
    go_wp2
    have P6 := Lib.hid (show Blk (w5.setCell ⟨w2.heap.size, 2, none⟩ (.int .i64 (L4 : Int))) w2.heap.size #[.int .i64 (W0 : Int), .int .i64 (W2 : Int), .int .i64 (L4 : Int), .slice none 0 0] 26 from by simpa using P5.out.set_ 2 (.int .i64 (L4 : Int)))
    have Q6 := Lib.hid (Q5.out.far (p := ⟨w2.heap.size, 2, none⟩) (Nat.ne_of_lt hl2) (.int .i64 (L4 : Int)))
    have B6 := Lib.hid (B5.out.setCell (p := ⟨w2.heap.size, 2, none⟩) (Nat.le_of_lt hl2) (.int .i64 (L4 : Int)))
    generalize w5.setCell ⟨w2.heap.size, 2, none⟩ (.int .i64 (L4 : Int)) = w6 at P6 Q6 B6 ⊢
    obtain ⟨pg, hpg⟩ : ∃ g, g = w2.heap.size := ⟨_, rfl⟩
    rw [← hpg] at P6 hl2 ⊢
    clear hpg y5 yf5 P3 P4 P5 Q3 Q4 Q5 B3 B4 B5 Q2 B2 Q1 B1 Q0 B0 C0 C2 C4
    go_loopw [7] (fun xv wr => ∃ (x k' c' : Nat) (ds : List Chk) (A : Option Addr), xv = .int .i64 x ∧ 12 ≤ x ∧ x ≤ s.size ∧ Hid (ds.length = k') ∧ k' ≤ x ∧ Hid (gotR (bl s) ds x) ∧ Own wr w.heap.size 46 3 A k' c' (chks ds) ∧ Blk wr pg #[.int .i64 (W0 : Int), .int .i64 (W2 : Int), .int .i64 (L4 : Int), .slice A k' c'] 26 ∧ Blk wr w.heap.size #[.int .i64 0, .int .i64 0, .int .i64 0, .slice none 0 0] 26 ∧ Below w.heap.size w wr) (fun xv _ => s.size - (intOf xv).toNat)
    case atStart => exact ⟨12, 0, 0, [], none, rfl, by omega, by omega, Lib.hid rfl, by omega, Lib.hid (gotR_start (by omega)), Own.nil _ _ _ _, P6.out, Q6.out, B6.out⟩
    case round =>
      obtain ⟨x, k', c', ds, A, rfl, hx12, hxs, hdl, hkx, hR, o, p, q, hb⟩ := hrel
      have O := Lib.hid o
      have P := Lib.hid p
      have Q := Lib.hid q
      have B := Lib.hid hb
      clear o p q hb
      by_cases hlt : x < s.size
      · by_cases hok : chunkOk ((bl s).drop x)
        · obtain ⟨n1, n2, _, n4⟩ := chunkN_le hok
          rw [List.length_drop, hlen] at n2
          have HR2 := Lib.hid (gotR_step hR.out (by omega) hok)
          obtain ⟨N, hN⟩ : ∃ N, N = chunkN ((bl s).drop x) := ⟨_, rfl⟩
          obtain ⟨ch, hch⟩ : ∃ ch, ch = chunkAt ((bl s).drop x) := ⟨_, rfl⟩
          have CG := Lib.hid (fun w => ichunk_get s (by omega) x hxs ch ((x + N : Nat) : Int) true (fun _ => ⟨hch, by rw [hN], rfl⟩) (fun hn => absurd hok hn) w)
          rw [← hN] at HR2 n1 n2
          rw [← hch] at HR2
          clear hN hch hR hok
          obtain ⟨c1, c2, c3⟩ := ch
          go_wp2_with fail
          refine (CG.out _).mono ?_
          rintro e w7 ⟨rfl, b7⟩
          have O7 := Lib.hid (O.out.below b7 (Nat.le_refl _))
          have P7 := Lib.hid (P.out.below b7 P.out.lt)
          have Q7 := Lib.hid (Q.out.below b7 Q.out.lt)
          have B7 := Lib.hid (bstep B.out b7 B.out.size)
          have v3 : w7.cell? ⟨pg, 3, none⟩ = some (.slice A k' c') := P7.out.get 3 rfl
          have vl := P7.out.lt
          have hbw := B7.out.size
          clear b7
          go_wp2_with (at_builtin; refine wpList_app _ rfl (.tmp 64) (.tmp 66) _ rfl w.heap.size 46 i0 (.agg #[.int .i64 0, .int .i64 0, .string ⟨#[]⟩]) 3 32 Try.underlying24 hi hz0 hz1 hz2 rfl (by decide) A k' c' (chks ds) rfl ((O7.out.alloc _).alloc _) (w7.heap.size + 2) (some ⟨w7.heap.size + 1, 0, none⟩) 1 1 (chks [(c1, c2, c3)]) rfl (sl_new1 rfl) rfl (chks_one _) (by unfold maxLen; omega) (by omega) (by simp; omega) ?_; intro A8 c8 row w8 o8 g8 r8 d8; rw [← chks_app] at o8; have O8 := Lib.hid o8; have P8 := Lib.hid (((P7.out.alloc _).alloc _).grown g8 (fun e => by obtain ⟨a, ha, hab⟩ := r8 _ e.symm; exact O7.out.ne_blk P7.out (by decide) a ha hab)); have Q8 := Lib.hid (((Q7.out.alloc _).alloc _).grown g8 (fun e => by obtain ⟨a, ha, hab⟩ := r8 _ e.symm; exact O7.out.ne_blk Q7.out (by decide) a ha hab)); have B8 := Lib.hid (below_at ((B7.out.alloc hbw _).alloc (by simp; omega) _) (by simp; omega) g8 r8 (fun a ha => (O7.out.blk a ha).1)); have v8 : w8.cell? ⟨pg, 3, none⟩ = some (.slice A k' c') := P8.out.get 3 rfl; have vf8 := P8.out.frozen 3; have vl8 := P8.out.lt; clear o8 g8 r8 d8 v3)
          go_roundw
          case rel =>
            refine ⟨x + N, k' + 1, c8, ds ++ [(c1, c2, c3)], A8, rfl, by omega, by omega, Lib.hid (by rw [List.length_append, hdl.out]; rfl), by omega, HR2, O8.out.set_ne (O8.out.ne_blk P8.out (by decide)) _, ?_, Q8.out.far (Nat.ne_of_lt hl2) _, B8.out.setCell (Nat.le_of_lt hl2) _⟩
            simpa using P8.out.set_ 3 (.slice A8 (k' + 1) c8)
          case measure => simp [intOf]; omega
        · have hbad := gotR_bad hR.out (by omega) hok
          have hc := code_bad (l := bl s) (by omega) HSM.out hbad
          obtain ⟨rfl, rfl, rfl, rfl, hk⟩ := gotten_no H.out (by rw [hc]; omega)
          rw [hc] at hk
          subst hk
          have CG := Lib.hid (fun w => ichunk_get s (by omega) x hxs (0, 0, ⟨#[]⟩) 0 false (fun h => absurd h hok) (fun _ => ⟨rfl, rfl, rfl⟩) w)
          clear hR hok hbad hc
          go_wp2_with fail
          refine (CG.out _).mono ?_
          rintro e w7 ⟨rfl, b7⟩
          have Q7 := Lib.hid (Q.out.below b7 Q.out.lt)
          have B7 := Lib.hid (bstep B.out b7 B.out.size)
          have x0 : w7.cell? ⟨w.heap.size, 0, none⟩ = some (.int .i64 0) := Q7.out.get 0 rfl
          have x1 : w7.cell? ⟨w.heap.size, 1, none⟩ = some (.int .i64 0) := Q7.out.get 1 rfl
          have x2 : w7.cell? ⟨w.heap.size, 2, none⟩ = some (.int .i64 0) := Q7.out.get 2 rfl
          have x3 : w7.cell? ⟨w.heap.size, 3, none⟩ = some (.slice none 0 0) := Q7.out.get 3 rfl
          have hl7 := Q7.out.lt
          have fr0 := Q7.out.frozen 0
          have fr1 := Q7.out.frozen 1
          have fr2 := Q7.out.frozen 2
          have fr3 := Q7.out.frozen 3
          clear b7
          go_wp2
          refine bodyPost_ret (v := .tuple #[.agg #[.int .i64 0, .int .i64 0, .int .i64 0, .slice none 0 0], .int .i64 3]) (by simp [results, Try.results11, go_sem, x0, x1, x2, x3, hl7]) rfl ⟨none, 0, rfl, Own.nil _ _ _ _, ?_⟩
          first
            | exact ((((B7.out.setCell (Nat.le_refl _) _).setCell (Nat.le_refl _) _).setCell (Nat.le_refl _) _).setCell (Nat.le_refl _) _).alloc (by simpa using B7.out.size) _
            | exact ((((B7.out.alloc B7.out.size _).setCell (Nat.le_refl _) _).setCell (Nat.le_refl _) _).setCell (Nat.le_refl _) _).setCell (Nat.le_refl _) _
      · have hgo := gotR_end hR.out (by omega)
        have hball := (chunksP_ok _ _ _ (show chunksP (bl s).length ((bl s).drop 12) = some ds from hgo)).1
        have hbods := allB_bods hball
        obtain ⟨a1, a2, a3⟩ := HW.out
        have v0 : wr.cell? ⟨pg, 0, none⟩ = some (.int .i64 (W0 : Int)) := P.out.get 0 rfl
        have v1 : wr.cell? ⟨pg, 1, none⟩ = some (.int .i64 (W2 : Int)) := P.out.get 1 rfl
        have v2 : wr.cell? ⟨pg, 2, none⟩ = some (.int .i64 (L4 : Int)) := P.out.get 2 rfl
        have v3 : wr.cell? ⟨pg, 3, none⟩ = some (.slice A k' c') := P.out.get 3 rfl
        have PV := Lib.hid (fun (w : World) hs => ipack_valid (W0 : Int) (W2 : Int) (L4 : Int) A k' c' ds w hs hdl.out (by omega) hbods)
        clear hball hbods hR
        by_cases hpb : packB (W0 : Int) (W2 : Int) (L4 : Int) ds = true
        · have hc := code_good (l := bl s) (by omega) HSM.out hgo (by rw [a1, a2, a3]; exact hpb)
          obtain ⟨hf, ht, hg', hcs, hk⟩ := gotten_yes H.out hc hgo
          rw [a1] at hf; rw [a2] at ht; rw [a3] at hg'
          subst hf ht hg' hcs hk
          rw [hpb] at PV
          clear hc hgo a1 a2 a3
          go_wp2_with fail
          refine (PV.out _ O.out.sl).mono ?_
          rintro e w7 ⟨rfl, b7⟩
          have O7 := Lib.hid (O.out.below b7 (Nat.le_refl _))
          have P7 := Lib.hid (P.out.below b7 P.out.lt)
          have Q7 := Lib.hid (Q.out.below b7 Q.out.lt)
          have B7 := Lib.hid (bstep B.out b7 B.out.size)
          have x0 : w7.cell? ⟨w.heap.size, 0, none⟩ = some (.int .i64 0) := Q7.out.get 0 rfl
          have x1 : w7.cell? ⟨w.heap.size, 1, none⟩ = some (.int .i64 0) := Q7.out.get 1 rfl
          have x2 : w7.cell? ⟨w.heap.size, 2, none⟩ = some (.int .i64 0) := Q7.out.get 2 rfl
          have x3 : w7.cell? ⟨w.heap.size, 3, none⟩ = some (.slice none 0 0) := Q7.out.get 3 rfl
          have u0 : w7.cell? ⟨pg, 0, none⟩ = some (.int .i64 (W0 : Int)) := P7.out.get 0 rfl
          have u1 : w7.cell? ⟨pg, 1, none⟩ = some (.int .i64 (W2 : Int)) := P7.out.get 1 rfl
          have u2 : w7.cell? ⟨pg, 2, none⟩ = some (.int .i64 (L4 : Int)) := P7.out.get 2 rfl
          have u3 : w7.cell? ⟨pg, 3, none⟩ = some (.slice A k' c') := P7.out.get 3 rfl
          have hl7 := Q7.out.lt
          have hl8 := P7.out.lt
          have fr0 := Q7.out.frozen 0
          have fr1 := Q7.out.frozen 1
          have fr2 := Q7.out.frozen 2
          have fr3 := Q7.out.frozen 3
          clear b7 v0 v1 v2 v3
          go_wp2
          refine bodyPost_ret (v := .tuple #[.agg #[.int .i64 (W0 : Int), .int .i64 (W2 : Int), .int .i64 (L4 : Int), .slice A k' c'], .int .i64 0]) (by simp [results, Try.results11, go_sem, x0, x1, x2, x3, hl7]) rfl ?_
          have hnb := O7.out.ne_blk Q7.out (by decide)
          refine ⟨A, c', by rw [hdl.out], ?_, (((B7.out.setCell (Nat.le_refl _) _).setCell (Nat.le_refl _) _).setCell (Nat.le_refl _) _).setCell (Nat.le_refl _) _⟩
          rw [hdl.out]
          exact (((O7.out.set_ne hnb _).set_ne hnb _).set_ne hnb _).set_ne hnb _
        · have hpb : packB (W0 : Int) (W2 : Int) (L4 : Int) ds = false := by simpa using hpb
          have hc := code_bad2 (l := bl s) (by omega) HSM.out hgo (by rw [a1, a2, a3]; exact hpb)
          obtain ⟨rfl, rfl, rfl, rfl, hk⟩ := gotten_no H.out (by rw [hc]; omega)
          rw [hc] at hk
          subst hk
          rw [hpb] at PV
          clear hc hgo a1 a2 a3
          go_wp2_with fail
          refine (PV.out _ O.out.sl).mono ?_
          rintro e w7 ⟨rfl, b7⟩
          have Q7 := Lib.hid (Q.out.below b7 Q.out.lt)
          have B7 := Lib.hid (bstep B.out b7 B.out.size)
          have x0 : w7.cell? ⟨w.heap.size, 0, none⟩ = some (.int .i64 0) := Q7.out.get 0 rfl
          have x1 : w7.cell? ⟨w.heap.size, 1, none⟩ = some (.int .i64 0) := Q7.out.get 1 rfl
          have x2 : w7.cell? ⟨w.heap.size, 2, none⟩ = some (.int .i64 0) := Q7.out.get 2 rfl
          have x3 : w7.cell? ⟨w.heap.size, 3, none⟩ = some (.slice none 0 0) := Q7.out.get 3 rfl
          have hl7 := Q7.out.lt
          have fr0 := Q7.out.frozen 0
          have fr1 := Q7.out.frozen 1
          have fr2 := Q7.out.frozen 2
          have fr3 := Q7.out.frozen 3
          clear b7 v0 v1 v2 v3
          go_wp2
          refine bodyPost_ret (v := .tuple #[.agg #[.int .i64 0, .int .i64 0, .int .i64 0, .slice none 0 0], .int .i64 3]) (by simp [results, Try.results11, go_sem, x0, x1, x2, x3, hl7]) rfl ⟨none, 0, rfl, Own.nil _ _ _ _, ?_⟩
          exact (((B7.out.setCell (Nat.le_refl _) _).setCell (Nat.le_refl _) _).setCell (Nat.le_refl _) _).setCell (Nat.le_refl _) _
end Go.Proofs.Ytlemdagiamnphaa
