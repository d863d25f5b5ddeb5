/-
  What the reference's PacketGet returns. Condition: the text is not too long.
-/
import Derived.Test.YtlemdagiamnphaaPkG
import Derived.Test.YtlemdagiamnphaaChkH
namespace Go.Proofs.Ytlemdagiamnphaa
open Go.ChangeShapes Go.WideShapes Go.ChangeAt Go.RowKit
set_option linter.unusedVariables false
set_option linter.unusedSimpArgs false

set_option maxHeartbeats 3200000 in
set_option maxRecDepth 100000 in
theorem spack_get (s : ByteArray) (hs : s.size ≤ 1050000) (f t g : Int) (cs : List Chk) (k : Int) (h : gotten (bl s) = (f, t, g, cs, k)) (w : World) : Calls Try.prog 12 #[.string s] w (PackG f t g cs k w) := by
  obtain ⟨i0, hi, hz0, hz1, hz2⟩ := info_parts info_chk
  have H := Lib.hid h
  clear h
  have hlen := bl_len s
  by_cases h12 : s.size < 12
  · obtain ⟨rfl, rfl, rfl, rfl, hk⟩ := gotten_no H.out (by rw [code_short (by omega)]; omega)
    rw [code_short (by omega)] at hk
    subst hk
    go_enter Try.func12, Try.ntmps12
    go_wp2
    go_returns
    exact ⟨none, 0, rfl, Own.nil _ _ _ _, by go_grown⟩
  · obtain ⟨A8, hA8⟩ : ∃ x, x = wAt (bl s) 8 := ⟨_, rfl⟩
    obtain ⟨B8, hB8⟩ : ∃ x, x = wAt (bl s) 10 := ⟨_, rfl⟩
    obtain ⟨GS, hGS⟩ : ∃ x, x = getSum (bl s) := ⟨_, rfl⟩
    obtain ⟨V0, hV0⟩ : ∃ x, x = wAt (bl s) 0 := ⟨_, rfl⟩
    obtain ⟨V2, hV2⟩ : ∃ x, x = wAt (bl s) 2 := ⟨_, rfl⟩
    obtain ⟨V4, hV4⟩ : ∃ x, x = wAt (bl s) 4 := ⟨_, rfl⟩
    obtain ⟨V6, hV6⟩ : ∃ x, x = wAt (bl s) 6 := ⟨_, rfl⟩
    have lA8 : A8 < 65536 := by rw [hA8]; exact wAt_lt _ _
    have lB8 : B8 < 65536 := by rw [hB8]; exact wAt_lt _ _
    have lV4 : V4 < 65536 := by rw [hV4]; exact wAt_lt _ _
    have lV6 : V6 < 65536 := by rw [hV6]; exact wAt_lt _ _
    have C8 := Lib.hid (fun w => quiet_b (by rw [hA8]; have := l1at s 8 (by omega) (by omega) w; simpa using this : Calls Try.prog 31 #[.string s, .int .i64 8] w (Quiet (.int .i64 A8) w)))
    have C10 := Lib.hid (fun w => quiet_b (by rw [hB8]; have := l1at s 10 (by omega) (by omega) w; simpa using this : Calls Try.prog 31 #[.string s, .int .i64 10] w (Quiet (.int .i64 B8) w)))
    have C0 := Lib.hid (fun w => quiet_b (by rw [hV0]; have := l1at s 0 (by omega) (by omega) w; simpa using this : Calls Try.prog 31 #[.string s, .int .i64 0] w (Quiet (.int .i64 V0) w)))
    have C2 := Lib.hid (fun w => quiet_b (by rw [hV2]; have := l1at s 2 (by omega) (by omega) w; simpa using this : Calls Try.prog 31 #[.string s, .int .i64 2] w (Quiet (.int .i64 V2) w)))
    have C4 := Lib.hid (fun w => quiet_b (by rw [hV4]; have := l1at s 4 (by omega) (by omega) w; simpa using this : Calls Try.prog 31 #[.string s, .int .i64 4] w (Quiet (.int .i64 V4) w)))
    have C6 := Lib.hid (fun w => quiet_b (by rw [hV6]; have := l1at s 6 (by omega) (by omega) w; simpa using this : Calls Try.prog 31 #[.string s, .int .i64 6] w (Quiet (.int .i64 V6) w)))
    have ST := Lib.hid (fun w => (by rw [hGS]; exact l13sum s (by omega) (by omega) w : Calls Try.prog 25 #[.string s] w fun e w' => e = .returned (.int .i64 (GS : Int)) ∧ Below w.heap.size w w'))
    have HL8 := Lib.hid (show lAt (bl s) 8 = 65536 * A8 + B8 from by rw [hA8, hB8]; rfl)
    have HGS := Lib.hid hGS
    have HW0 := Lib.hid (show fromOf (bl s) = (V0 : Int) ∧ toOf (bl s) = (V2 : Int) ∧ tagOf (bl s) = 65536 * (V4 : Int) + (V6 : Int) from ⟨by rw [hV0]; rfl, by rw [hV2]; rfl, by rw [hV4, hV6]; show ((65536 * wAt (bl s) 4 + wAt (bl s) 6 : Nat) : Int) = _; omega⟩)
    have q8 := IntWalk.i64_in (65536 * (A8 : Int)) (by omega)
    have q9 := IntWalk.i64_in (65536 * (A8 : Int) + (B8 : Int)) (by omega)
    have q4 := IntWalk.i64_in (65536 * (V4 : Int)) (by omega)
    have q5 := IntWalk.i64_in (65536 * (V4 : Int) + (V6 : Int)) (by omega)
    clear hA8 hB8 hV0 hV2 hV4 hV6 hGS
    have Q0 := Lib.hid (Blk.new w #[.int .i64 0, .int .i64 0, .int .i64 0, .slice none 0 0] 26)
    have B0 := Lib.hid ((Below.refl w.heap.size w).alloc (Nat.le_refl _) (.cells #[.int .i64 0, .int .i64 0, .int .i64 0, .slice none 0 0] 26))
    go_enter Try.func12, Try.ntmps12
    go_wp2_with fail
    refine (C8.out _).mono ?_
    rintro e w1 ⟨rfl, b1⟩
    have Q1 := Lib.hid (Q0.out.below b1 (by simp))
    have B1 := Lib.hid (bstep B0.out b1 B0.out.size)
    clear b1
    go_wp2_with fail
    refine (C10.out _).mono ?_
    rintro e w2 ⟨rfl, b2⟩
    have Q2 := Lib.hid (Q1.out.below b2 Q1.out.lt)
    have B2 := Lib.hid (bstep B1.out b2 B1.out.size)
    clear b2
    go_wp2_with fail
    refine (ST.out _).mono ?_
    rintro e w3 ⟨rfl, b3⟩
    have Q3 := Lib.hid (Q2.out.below b3 Q2.out.lt)
    have B3 := Lib.hid (bstep B2.out b3 B2.out.size)
    clear b3
    have x0 : w3.cell? ⟨w.heap.size, 0, none⟩ = some (.int .i64 0) := Q3.out.get 0 rfl
    have x1 : w3.cell? ⟨w.heap.size, 1, none⟩ = some (.int .i64 0) := Q3.out.get 1 rfl
    have x2 : w3.cell? ⟨w.heap.size, 2, none⟩ = some (.int .i64 0) := Q3.out.get 2 rfl
    have x3 : w3.cell? ⟨w.heap.size, 3, none⟩ = some (.slice none 0 0) := Q3.out.get 3 rfl
    have hl3 := Q3.out.lt
    have fr0 := Q3.out.frozen 0
    have fr1 := Q3.out.frozen 1
    have fr2 := Q3.out.frozen 2
    have fr3 := Q3.out.frozen 3
    by_cases hsum : 65536 * A8 + B8 = GS
    case neg =>
      have e0 : ((65536 * (A8 : Int) + (B8 : Int)) == (GS : Int)) = false := by simp; omega
      have hc := code_sum (l := bl s) (by omega) (by rw [HL8.out, ← HGS.out]; exact hsum)
      obtain ⟨rfl, rfl, rfl, rfl, hk⟩ := gotten_no H.out (by rw [hc]; omega)
      rw [hc] at hk
      subst hk
      clear hsum
      go_wp2
      refine bodyPost_ret (v := .tuple #[.agg #[.int .i64 0, .int .i64 0, .int .i64 0, .slice none 0 0], .int .i64 2]) (by simp [results, Try.results12, go_sem, x0, x1, x2, x3, hl3]) rfl ⟨none, 0, rfl, Own.nil _ _ _ _, ?_⟩
      exact (((B3.out.setCell (Nat.le_refl _) _).setCell (Nat.le_refl _) _).setCell (Nat.le_refl _) _).setCell (Nat.le_refl _) _
    have e0 : ((65536 * (A8 : Int) + (B8 : Int)) == (GS : Int)) = true := by simp; omega
    have HSM := Lib.hid (show lAt (bl s) 8 = getSum (bl s) from by rw [HL8.out, ← HGS.out, hsum])
    clear HL8 HGS ST C8 C10 hsum x0 x1 x2 x3 fr0 fr1 fr2 fr3
    go_wp2_with fail
    refine (C0.out _).mono ?_
    rintro e w4 ⟨rfl, b4⟩
    have Q4 := Lib.hid (Q3.out.below b4 Q3.out.lt)
    have B4 := Lib.hid (bstep B3.out b4 B3.out.size)
    clear b4
    go_wp2_with fail
    refine (C2.out _).mono ?_
    rintro e w5 ⟨rfl, b5⟩
    have Q5 := Lib.hid (Q4.out.below b5 Q4.out.lt)
    have B5 := Lib.hid (bstep B4.out b5 B4.out.size)
    clear b5
    go_wp2_with fail
    refine (C4.out _).mono ?_
    rintro e w6 ⟨rfl, b6⟩
    have Q6 := Lib.hid (Q5.out.below b6 Q5.out.lt)
    have B6 := Lib.hid (bstep B5.out b6 B5.out.size)
    clear b6
    go_wp2_with fail
    refine (C6.out _).mono ?_
    rintro e w7 ⟨rfl, b7⟩
    have Q7 := Lib.hid (Q6.out.below b7 Q6.out.lt)
    have B7 := Lib.hid (bstep B6.out b7 B6.out.size)
    clear b7
    obtain ⟨W0, hW0⟩ : ∃ x : Int, x = (V0 : Int) := ⟨_, rfl⟩
    obtain ⟨W2, hW2⟩ : ∃ x : Int, x = (V2 : Int) := ⟨_, rfl⟩
    obtain ⟨L4, hL4⟩ : ∃ x : Int, x = 65536 * (V4 : Int) + (V6 : Int) := ⟨_, rfl⟩
    have HW := Lib.hid (show fromOf (bl s) = W0 ∧ toOf (bl s) = W2 ∧ tagOf (bl s) = L4 from by rw [hW0, hW2, hL4]; exact HW0.out)
    have HWE := Lib.hid (show W0 = (V0 : Int) ∧ W2 = (V2 : Int) ∧ L4 = 65536 * (V4 : Int) + (V6 : Int) from ⟨hW0, hW2, hL4⟩)
    clear hW0 hW2 hL4
    go_wp2
    have hg := HWE.out
    rw [← hg.1, ← hg.2.1, ← hg.2.2]
    clear hg HWE HW0
    have hl7 := Q7.out.lt
    have hb7 := B7.out.size
    have O6 := Lib.hid ((Own.made w7 w.heap.size 46 3 #[] 0 hb7 (by unfold maxLen; omega) rfl).alloc (.cells #[.int .i64 W0, .int .i64 W2, .int .i64 L4, .slice (some ⟨w7.heap.size, 0, none⟩) 0 0] 26))
    have P6 := Lib.hid (show Blk ((w7.alloc (.cells #[] 46)).alloc (.cells #[.int .i64 W0, .int .i64 W2, .int .i64 L4, .slice (some ⟨w7.heap.size, 0, none⟩) 0 0] 26)) (w7.heap.size + 1) #[.int .i64 W0, .int .i64 W2, .int .i64 L4, .slice (some ⟨w7.heap.size, 0, none⟩) 0 0] 26 from by have := Blk.new (w7.alloc (.cells #[] 46)) #[.int .i64 W0, .int .i64 W2, .int .i64 L4, .slice (some ⟨w7.heap.size, 0, none⟩) 0 0] 26; simpa using this)
    have Q6 := Lib.hid ((Q7.out.alloc (.cells #[] 46)).alloc (.cells #[.int .i64 W0, .int .i64 W2, .int .i64 L4, .slice (some ⟨w7.heap.size, 0, none⟩) 0 0] 26))
    have B6 := Lib.hid ((B7.out.alloc hb7 (.cells #[] 46)).alloc (by simp; omega) (.cells #[.int .i64 W0, .int .i64 W2, .int .i64 L4, .slice (some ⟨w7.heap.size, 0, none⟩) 0 0] 26))
    generalize (w7.alloc (.cells #[] 46)).alloc (.cells #[.int .i64 W0, .int .i64 W2, .int .i64 L4, .slice (some ⟨w7.heap.size, 0, none⟩) 0 0] 26) = w6 at O6 P6 Q6 B6 ⊢
    obtain ⟨rg, hrg⟩ : ∃ g, g = w7.heap.size := ⟨_, rfl⟩
    obtain ⟨pg, hpg⟩ : ∃ g, g = w7.heap.size + 1 := ⟨_, rfl⟩
    have hl2 : w.heap.size < pg := by omega
    rw [← hpg, ← hrg] at P6 ⊢
    rw [← hrg] at O6
    clear hpg hrg hl7 hb7 Q7 B7 C0 C2 C4 C6 q8 q9 q4 q5
    go_loopw [5] (fun xv wr => ∃ (x k' c' : Nat) (ds : List Chk) (A : Option Addr), xv = .int .i64 x ∧ 12 ≤ x ∧ x ≤ s.size ∧ Hid (ds.length = k') ∧ k' ≤ x ∧ Hid (gotR (bl s) ds x) ∧ Own wr w.heap.size 46 3 A k' c' (chks ds) ∧ Blk wr pg #[.int .i64 W0, .int .i64 W2, .int .i64 L4, .slice A k' c'] 26 ∧ Blk wr w.heap.size #[.int .i64 0, .int .i64 0, .int .i64 0, .slice none 0 0] 26 ∧ Below w.heap.size w wr) (fun xv _ => s.size - (intOf xv).toNat)
    case atStart => exact ⟨12, 0, 0, [], some ⟨rg, 0, none⟩, rfl, by omega, by omega, Lib.hid rfl, by omega, Lib.hid (gotR_start (by omega)), O6.out, P6.out, Q6.out, B6.out⟩
    case round =>
      obtain ⟨x, k', c', ds, A, rfl, hx12, hxs, hdl, hkx, hR, o, p, q, hb⟩ := hrel
      have O := Lib.hid o
      have P := Lib.hid p
      have Q := Lib.hid q
      have B := Lib.hid hb
      clear o p q hb
      by_cases hlt : x < s.size
      · by_cases hok : chunkOk ((bl s).drop x)
        · obtain ⟨n1, n2, _, n4⟩ := chunkN_le hok
          rw [List.length_drop, hlen] at n2
          have HR2 := Lib.hid (gotR_step hR.out (by omega) hok)
          obtain ⟨N, hN⟩ : ∃ N, N = chunkN ((bl s).drop x) := ⟨_, rfl⟩
          obtain ⟨ch, hch⟩ : ∃ ch, ch = chunkAt ((bl s).drop x) := ⟨_, rfl⟩
          have CG := Lib.hid (fun w => schunk_get s (by omega) x hxs ch ((x + N : Nat) : Int) true (fun _ => ⟨hch, by rw [hN], rfl⟩) (fun hn => absurd hok hn) w)
          rw [← hN] at HR2 n1 n2
          rw [← hch] at HR2
          clear hN hch hR hok
          obtain ⟨c1, c2, c3⟩ := ch
          go_wp2_with fail
          refine (CG.out _).mono ?_
          rintro e w7 ⟨rfl, b7⟩
          have O7 := Lib.hid (O.out.below b7 (Nat.le_refl _))
          have P7 := Lib.hid (P.out.below b7 P.out.lt)
          have Q7 := Lib.hid (Q.out.below b7 Q.out.lt)
          have B7 := Lib.hid (bstep B.out b7 B.out.size)
          have v3 : w7.cell? ⟨pg, 3, none⟩ = some (.slice A k' c') := P7.out.get 3 rfl
          have vl := P7.out.lt
          have hbw := B7.out.size
          clear b7
          go_wp2_with (at_builtin; refine wpList_app _ rfl (.tmp 50) (.tmp 52) _ rfl w.heap.size 46 i0 (.agg #[.int .i64 0, .int .i64 0, .string ⟨#[]⟩]) 3 32 Try.underlying24 hi hz0 hz1 hz2 rfl (by decide) A k' c' (chks ds) rfl ((O7.out.alloc _).alloc _) (w7.heap.size + 2) (some ⟨w7.heap.size + 1, 0, none⟩) 1 1 (chks [(c1, c2, c3)]) rfl (sl_new1 rfl) rfl (chks_one _) (by unfold maxLen; omega) (by omega) (by simp; omega) ?_; intro A8 c8 row w8 o8 g8 r8 d8; rw [← chks_app] at o8; have O8 := Lib.hid o8; have P8 := Lib.hid (((P7.out.alloc _).alloc _).grown g8 (fun e => by obtain ⟨a, ha, hab⟩ := r8 _ e.symm; exact O7.out.ne_blk P7.out (by decide) a ha hab)); have Q8 := Lib.hid (((Q7.out.alloc _).alloc _).grown g8 (fun e => by obtain ⟨a, ha, hab⟩ := r8 _ e.symm; exact O7.out.ne_blk Q7.out (by decide) a ha hab)); have B8 := Lib.hid (below_at ((B7.out.alloc hbw _).alloc (by simp; omega) _) (by simp; omega) g8 r8 (fun a ha => (O7.out.blk a ha).1)); have v8 : w8.cell? ⟨pg, 3, none⟩ = some (.slice A k' c') := P8.out.get 3 rfl; have vf8 := P8.out.frozen 3; have vl8 := P8.out.lt; clear o8 g8 r8 d8 v3)
          go_roundw
          case rel =>
            refine ⟨x + N, k' + 1, c8, ds ++ [(c1, c2, c3)], A8, rfl, by omega, by omega, Lib.hid (by rw [List.length_append, hdl.out]; rfl), by omega, HR2, O8.out.set_ne (O8.out.ne_blk P8.out (by decide)) _, ?_, Q8.out.far (Nat.ne_of_lt hl2) _, B8.out.setCell (Nat.le_of_lt hl2) _⟩
            simpa using P8.out.set_ 3 (.slice A8 (k' + 1) c8)
          case measure => simp [intOf]; omega
        · have hbad := gotR_bad hR.out (by omega) hok
          have hc := code_bad (l := bl s) (by omega) HSM.out hbad
          obtain ⟨rfl, rfl, rfl, rfl, hk⟩ := gotten_no H.out (by rw [hc]; omega)
          rw [hc] at hk
          subst hk
          have CG := Lib.hid (fun w => schunk_get s (by omega) x hxs (0, 0, ⟨#[]⟩) 0 false (fun h => absurd h hok) (fun _ => ⟨rfl, rfl, rfl⟩) w)
          clear hR hok hbad hc
          go_wp2_with fail
          refine (CG.out _).mono ?_
          rintro e w7 ⟨rfl, b7⟩
          have Q7 := Lib.hid (Q.out.below b7 Q.out.lt)
          have B7 := Lib.hid (bstep B.out b7 B.out.size)
          have x0 : w7.cell? ⟨w.heap.size, 0, none⟩ = some (.int .i64 0) := Q7.out.get 0 rfl
          have x1 : w7.cell? ⟨w.heap.size, 1, none⟩ = some (.int .i64 0) := Q7.out.get 1 rfl
          have x2 : w7.cell? ⟨w.heap.size, 2, none⟩ = some (.int .i64 0) := Q7.out.get 2 rfl
          have x3 : w7.cell? ⟨w.heap.size, 3, none⟩ = some (.slice none 0 0) := Q7.out.get 3 rfl
          have hl7 := Q7.out.lt
          have fr0 := Q7.out.frozen 0
          have fr1 := Q7.out.frozen 1
          have fr2 := Q7.out.frozen 2
          have fr3 := Q7.out.frozen 3
          clear b7
          go_wp2
          refine bodyPost_ret (v := .tuple #[.agg #[.int .i64 0, .int .i64 0, .int .i64 0, .slice none 0 0], .int .i64 3]) (by simp [results, Try.results12, go_sem, x0, x1, x2, x3, hl7]) rfl ⟨none, 0, rfl, Own.nil _ _ _ _, ?_⟩
          first
            | exact ((((B7.out.setCell (Nat.le_refl _) _).setCell (Nat.le_refl _) _).setCell (Nat.le_refl _) _).setCell (Nat.le_refl _) _).alloc (by simpa using B7.out.size) _
            | exact ((((B7.out.alloc B7.out.size _).setCell (Nat.le_refl _) _).setCell (Nat.le_refl _) _).setCell (Nat.le_refl _) _).setCell (Nat.le_refl _) _
      · have hgo := gotR_end hR.out (by omega)
        have hball := (chunksP_ok _ _ _ (show chunksP (bl s).length ((bl s).drop 12) = some ds from hgo)).1
        have hbods := allB_bods hball
        obtain ⟨a1, a2, a3⟩ := HW.out
        have v0 : wr.cell? ⟨pg, 0, none⟩ = some (.int .i64 W0) := P.out.get 0 rfl
        have v1 : wr.cell? ⟨pg, 1, none⟩ = some (.int .i64 W2) := P.out.get 1 rfl
        have v2 : wr.cell? ⟨pg, 2, none⟩ = some (.int .i64 L4) := P.out.get 2 rfl
        have v3 : wr.cell? ⟨pg, 3, none⟩ = some (.slice A k' c') := P.out.get 3 rfl
        have PV := Lib.hid (fun (w : World) hs => spack_valid W0 W2 L4 A k' c' ds w hs hdl.out (by omega) hbods)
        clear hball hbods hR
        by_cases hpb : packB W0 W2 L4 ds = true
        · have hc := code_good (l := bl s) (by omega) HSM.out hgo (by rw [a1, a2, a3]; exact hpb)
          obtain ⟨hf, ht, hg', hcs, hk⟩ := gotten_yes H.out hc hgo
          rw [a1] at hf; rw [a2] at ht; rw [a3] at hg'
          replace hf := hf.symm
          replace ht := ht.symm
          replace hg' := hg'.symm
          subst hf ht hg' hcs hk
          rw [hpb] at PV
          clear hc hgo a1 a2 a3
          go_wp2_with fail
          refine (PV.out _ O.out.sl).mono ?_
          rintro e w7 ⟨rfl, b7⟩
          have O7 := Lib.hid (O.out.below b7 (Nat.le_refl _))
          have P7 := Lib.hid (P.out.below b7 P.out.lt)
          have Q7 := Lib.hid (Q.out.below b7 Q.out.lt)
          have B7 := Lib.hid (bstep B.out b7 B.out.size)
          have x0 : w7.cell? ⟨w.heap.size, 0, none⟩ = some (.int .i64 0) := Q7.out.get 0 rfl
          have x1 : w7.cell? ⟨w.heap.size, 1, none⟩ = some (.int .i64 0) := Q7.out.get 1 rfl
          have x2 : w7.cell? ⟨w.heap.size, 2, none⟩ = some (.int .i64 0) := Q7.out.get 2 rfl
          have x3 : w7.cell? ⟨w.heap.size, 3, none⟩ = some (.slice none 0 0) := Q7.out.get 3 rfl
          have u0 : w7.cell? ⟨pg, 0, none⟩ = some (.int .i64 W0) := P7.out.get 0 rfl
          have u1 : w7.cell? ⟨pg, 1, none⟩ = some (.int .i64 W2) := P7.out.get 1 rfl
          have u2 : w7.cell? ⟨pg, 2, none⟩ = some (.int .i64 L4) := P7.out.get 2 rfl
          have u3 : w7.cell? ⟨pg, 3, none⟩ = some (.slice A k' c') := P7.out.get 3 rfl
          have hl7 := Q7.out.lt
          have hl8 := P7.out.lt
          have fr0 := Q7.out.frozen 0
          have fr1 := Q7.out.frozen 1
          have fr2 := Q7.out.frozen 2
          have fr3 := Q7.out.frozen 3
          clear b7 v0 v1 v2 v3
          go_wp2
          refine bodyPost_ret (v := .tuple #[.agg #[.int .i64 W0, .int .i64 W2, .int .i64 L4, .slice A k' c'], .int .i64 0]) (by simp [results, Try.results12, go_sem, x0, x1, x2, x3, hl7]) rfl ?_
          have hnb := O7.out.ne_blk Q7.out (by decide)
          refine ⟨A, c', by rw [hdl.out], ?_, (((B7.out.setCell (Nat.le_refl _) _).setCell (Nat.le_refl _) _).setCell (Nat.le_refl _) _).setCell (Nat.le_refl _) _⟩
          rw [hdl.out]
          exact (((O7.out.set_ne hnb _).set_ne hnb _).set_ne hnb _).set_ne hnb _
        · have hpb : packB W0 W2 L4 ds = false := by simpa using hpb
          have hc := code_bad2 (l := bl s) (by omega) HSM.out hgo (by rw [a1, a2, a3]; exact hpb)
          obtain ⟨rfl, rfl, rfl, rfl, hk⟩ := gotten_no H.out (by rw [hc]; omega)
          rw [hc] at hk
          subst hk
          rw [hpb] at PV
          clear hc hgo a1 a2 a3
          go_wp2_with fail
          refine (PV.out _ O.out.sl).mono ?_
          rintro e w7 ⟨rfl, b7⟩
          have Q7 := Lib.hid (Q.out.below b7 Q.out.lt)
          have B7 := Lib.hid (bstep B.out b7 B.out.size)
          have x0 : w7.cell? ⟨w.heap.size, 0, none⟩ = some (.int .i64 0) := Q7.out.get 0 rfl
          have x1 : w7.cell? ⟨w.heap.size, 1, none⟩ = some (.int .i64 0) := Q7.out.get 1 rfl
          have x2 : w7.cell? ⟨w.heap.size, 2, none⟩ = some (.int .i64 0) := Q7.out.get 2 rfl
          have x3 : w7.cell? ⟨w.heap.size, 3, none⟩ = some (.slice none 0 0) := Q7.out.get 3 rfl
          have hl7 := Q7.out.lt
          have fr0 := Q7.out.frozen 0
          have fr1 := Q7.out.frozen 1
          have fr2 := Q7.out.frozen 2
          have fr3 := Q7.out.frozen 3
          clear b7 v0 v1 v2 v3
          go_wp2
          refine bodyPost_ret (v := .tuple #[.agg #[.int .i64 0, .int .i64 0, .int .i64 0, .slice none 0 0], .int .i64 3]) (by simp [results, Try.results12, go_sem, x0, x1, x2, x3, hl7]) rfl ⟨none, 0, rfl, Own.nil _ _ _ _, ?_⟩
          exact (((B7.out.setCell (Nat.le_refl _) _).setCell (Nat.le_refl _) _).setCell (Nat.le_refl _) _).setCell (Nat.le_refl _) _
end Go.Proofs.Ytlemdagiamnphaa
