/-
  What AsmRun of the program returns. Conditions: those that each theorem bears.
-/
import Derived.Test.YtkhaodbcnnlhaaaRunP
import Derived.Test.YtkhaodbcnnlhaaaAddI
namespace Go.Proofs.Ytkhaodbcnnlhaaa
open Go.ChangeShapes Go.WideShapes Go.ChangeAt Go.RowKit
set_option linter.unusedVariables false
set_option linter.unusedSimpArgs false
set_option maxHeartbeats 12800000 in
set_option maxRecDepth 100000 in
theorem iasm_run (sn : Int) (A : Option Addr) (n c : Nat) (l : List Dat) {R : List Msg} (hR : runM sn l = R) (w : World) (hs : Sl w w.heap.size A (dats l)) (hn : l.length = n) (hn2 : n ≤ 1048576) (ht : Dats l) :
    Calls Try.prog 9 #[.int .i64 sn, .slice A n c] w (MadeM R w) := by
  have HS := Lib.hid hs; have HN := Lib.hid hn; have HT := Lib.hid ht; clear hs hn ht
  by_cases hsn : 1 ≤ sn ∧ sn ≤ 4
  · skip
    obtain ⟨s, rfl⟩ : ∃ s : Nat, sn = (s : Int) := ⟨sn.toNat, by omega⟩
    have hs1 : 1 ≤ s := by omega
    have hs4 : s ≤ 4 := by omega
    have HR := Lib.hid (by have h := hR; unfold runM at h; rw [if_pos hsn, Int.toNat_natCast] at h; exact h : runL l (List.replicate s 0) [] [] = R)
    clear hR hsn
    have HF0 := Lib.hid (runFit_start l s hs4)
    go_enter Try.func9, Try.ntmps9
    go_wp2_with fail
    refine (iasm_yes s hs1 hs4 _).mono ?_
    rintro e w1 ⟨A3, c3, A5, c5, rfl, o3, o5, b1'⟩
    have B1 := Lib.hid b1'
    have O3 := Lib.hid (by exact o3 : Own w1 w.heap.size 3 1 A3 s c3 (ints (List.replicate s 0)))
    have O5 := Lib.hid (by exact o5 : Own w1 w.heap.size 45 7 A5 0 c5 (dats []))
    have hb1 := B1.out.size
    clear b1' o3 o5
    have Q1 := Lib.hid (Blk.new w1 #[.slice A3 s c3, .slice A5 0 c5] 41)
    go_wp2
    go_loopw [7, 23] (fun ov iv wr => ∃ (k n3 : Nat) (nx : List Int) (ps : List Dat) (ms : List Msg) (A3 : Option Addr) (c3 : Nat) (A5 : Option Addr) (m5 c5 : Nat) (Ao : Option Addr) (q co : Nat), k ≤ n ∧ ov = .slice Ao q co ∧ iv = .int .i64 k ∧ Hid (nx.length = n3) ∧ Hid (ps.length = m5) ∧ Hid (ms.length = q) ∧ Hid (RunFit k l nx ps ms) ∧ Hid (runL (l.drop k) nx ps ms = R) ∧ Blk wr w1.heap.size #[.slice A3 n3 c3, .slice A5 m5 c5] 41 ∧ Own wr w.heap.size 3 1 A3 n3 c3 (ints nx) ∧ Own wr w.heap.size 45 7 A5 m5 c5 (dats ps) ∧ Own wr w.heap.size 64 4 Ao q co (msgs ms) ∧ Below w.heap.size w wr) (fun _ iv _ => n - (intOf iv).toNat)
    case atStart => exact ⟨0, s, List.replicate s 0, [], [], A3, c3, A5, 0, c5, some ⟨w1.heap.size + 1, 0, none⟩, 0, 0, by omega, by simp, rfl, Lib.hid (by rw [List.length_replicate]), Lib.hid rfl, Lib.hid rfl, HF0, HR, Q1.out.alloc _, (O3.out.alloc _).alloc _, (O5.out.alloc _).alloc _, (by have h := Own.made (w1.alloc (.cells #[.slice A3 s c3, .slice A5 0 c5] 41)) w.heap.size 64 4 #[] 0 (by simp; omega) (by unfold maxLen; omega) rfl; rw [World.size_alloc] at h; exact h), (B1.out.alloc hb1 _).alloc (by simp; omega) _⟩
    case round =>
      clear Q1 O3 O5 B1 HR HF0
      obtain ⟨k, n3, nx, ps, ms, A3, c3, A5, m5, c5, Ao, q, co, hk, rfl, rfl, hnx, hps, hms, hF, hE, hQ, h3, h5, ho, hb⟩ := hrel
      have Q := Lib.hid hQ
      have O3 := Lib.hid h3
      have O5 := Lib.hid h5
      have OO := Lib.hid ho
      have B := Lib.hid hb
      clear hQ h3 h5 ho hb
      have hbw := B.out.size
      have hn3 : n3 ≤ 4 := by rw [← hnx.out]; exact hF.out.hnx
      have hm5 : m5 ≤ 13 := by rw [← hps.out]; exact hF.out.hps
      have hqk : q ≤ k := by have := hF.out.cnt; rw [hms.out] at this; omega
      have hcap := O5.out.caps
      have hcap2 : c5 ≤ 9223372036854775807 := by have := hcap.2; unfold maxLen at this; exact this
      by_cases hlt : k < n
      · obtain ⟨e, he⟩ := fget_of_lt (xs := l) (k := k) (by rw [HN.out]; exact hlt)
        obtain ⟨b, off, rfl, hbl, ⟨e0, e1, e2, e3, e4, e5, e6⟩⟩ := dats_elem ((HS.out.below B.out (Nat.le_refl _)).more B.out.size) he
        have hht := HT.out _ (List.mem_of_getElem? he)
        have HE0 := Lib.hid he
        clear he
        obtain ⟨f0, f1, f2, f3, f4, f5, f6⟩ := e
        have hf6 : f6.size ≤ 9223372036854775807 := hht.2.2.2
        clear hht
        change World.cell? _ _ = some (.int .i64 f0) at e0
        change World.cell? _ _ = some (.int .i64 f1) at e1
        change World.cell? _ _ = some (.int .i64 f2) at e2
        change World.cell? _ _ = some (.bool f3) at e3
        change World.cell? _ _ = some (.bool f4) at e4
        change World.cell? _ _ = some (.bool f5) at e5
        change World.cell? _ _ = some (.string f6) at e6
        have hki : (0 : Int) ≤ (k : Int) := by omega
        have hkn : (k : Int) < (n : Int) := by omega
        have k0 : wr.cell? ⟨w1.heap.size, 0, none⟩ = some (.slice A3 n3 c3) := Q.out.get 0 rfl
        have k1 : wr.cell? ⟨w1.heap.size, 1, none⟩ = some (.slice A5 m5 c5) := Q.out.get 1 rfl
        have hql := Q.out.lt
        obtain ⟨r, hr⟩ : ∃ r, addA nx ps ⟨f0, f1, f2, f3, f4, f5, f6⟩ = r := ⟨_, rfl⟩
        have HRR := Lib.hid hr
        go_wp2_with fail
        refine (iasm_add A3 n3 c3 nx A5 m5 c5 ps f0 f1 f2 f3 f4 f5 f6 hr _ ((O3.out.sl.alloc (Nat.le_refl _) _).more (by simp)) ((O5.out.sl.alloc (Nat.le_refl _) _).more (by simp)) hnx.out hps.out (by omega) hcap.1 hcap2 hF.out.ht hf6).mono ?_
        rintro e w2 ⟨A7, n7, c7, A8, m8, c8, As, qs, cs, rfl, hl7, hl8, hls, o7, o8, os, b2'⟩
        obtain ⟨_, z2, b2⟩ := boxed b2'
        have B2 := Lib.hid (bstep B.out b2 hbw)
        have Q2 := Lib.hid (Q.out.below b2 Q.out.lt)
        have P3 := Lib.hid (O3.out.below b2 (Nat.le_refl _))
        have P5 := Lib.hid (O5.out.below b2 (Nat.le_refl _))
        have PO := Lib.hid (OO.out.below b2 (Nat.le_refl _))
        have O7 := Lib.hid (o7.lower (b := w.heap.size) (by simp; omega))
        have O8 := Lib.hid (o8.lower (b := w.heap.size) (by simp; omega))
        have OS := Lib.hid (os.lower (b := w.heap.size) (by simp; omega))
        have HL7 := Lib.hid hl7
        have HL8 := Lib.hid hl8
        have HLS := Lib.hid hls
        have hb2 := B2.out.size
        clear b2 b2' o7 o8 os hl7 hl8 hls k0 k1 e0 e1 e2 e3 e4 e5 e6 hql
        clear Q O3 O5 OO B hr
        have k0 : w2.cell? ⟨w1.heap.size, 0, none⟩ = some (.slice A3 n3 c3) := Q2.out.get 0 rfl
        have k1 : w2.cell? ⟨w1.heap.size, 1, none⟩ = some (.slice A5 m5 c5) := Q2.out.get 1 rfl
        have kf0 := Q2.out.frozen 0
        have kf1 := Q2.out.frozen 1
        have hql := Q2.out.lt
        by_cases hc : r.code = 0
        · skip
          have HE := Lib.hid ((runL_done HE0.out HRR.out hc).symm.trans hE.out)
          have HF2 := Lib.hid (runFit_done hF.out HT.out HE0.out HRR.out hc)
          clear hE
          have hqs : q + qs ≤ 1048577 := by have := HF2.out.cnt; rw [List.length_append, hms.out, HLS.out] at this; omega
          have H1 := Q2.out.set_ 0 (.slice A7 n7 c7)
          have Q3 := Lib.hid ((H1.set_ 1 (.slice A8 m8 c8)).alloc (.cells #[.slice A7 n7 c7, .slice A8 m8 c8] 41))
          have R7 := Lib.hid ((own_far (own_far O7.out Q2.out (by decide) 0 (.slice A7 n7 c7)) H1 (by decide) 1 (.slice A8 m8 c8)).alloc (.cells #[.slice A7 n7 c7, .slice A8 m8 c8] 41))
          have R8 := Lib.hid ((own_far (own_far O8.out Q2.out (by decide) 0 (.slice A7 n7 c7)) H1 (by decide) 1 (.slice A8 m8 c8)).alloc (.cells #[.slice A7 n7 c7, .slice A8 m8 c8] 41))
          have RO := Lib.hid ((own_far (own_far PO.out Q2.out (by decide) 0 (.slice A7 n7 c7)) H1 (by decide) 1 (.slice A8 m8 c8)).alloc (.cells #[.slice A7 n7 c7, .slice A8 m8 c8] 41))
          have RS := Lib.hid ((own_far (own_far OS.out Q2.out (by decide) 0 (.slice A7 n7 c7)) H1 (by decide) 1 (.slice A8 m8 c8)).alloc (.cells #[.slice A7 n7 c7, .slice A8 m8 c8] 41))
          have B3 := Lib.hid (((B2.out.setCell (p := ⟨w1.heap.size, 0, none⟩) hb1 (.slice A7 n7 c7)).setCell (p := ⟨w1.heap.size, 1, none⟩) hb1 (.slice A8 m8 c8)).alloc (by simp [World.setCell]; omega) (.cells #[.slice A7 n7 c7, .slice A8 m8 c8] 41))
          clear H1
          obtain ⟨j0, hj, hy0, hy1, hy2⟩ := info_parts info_msg
          have hB3 := B3.out.size
          skip
          go_wp2_with (at_builtin; refine wpList_app _ rfl _ _ _ rfl w.heap.size 64 j0 (.agg #[.int .i64 0, .int .i64 0, .bool false, .string ⟨#[]⟩]) 4 40 Try.underlying24 hj hy0 hy1 hy2 rfl (by decide) Ao q co (msgs ms) rfl RO.out _ As qs cs (msgs r.ms) rfl RS.out.sl (by rw [msgs_len, HLS.out]) (msgs_one _) (by unfold maxLen; omega) (by omega) hB3 ?_; intro As2 cs2 row w9 o9 g9 r9 d9; rw [← msgs_app] at o9; have S9 := Lib.hid o9; have Q9 := Lib.hid (blk_held Q3.out RO.out (by decide) g9 r9); have S7 := Lib.hid (own_held R7.out RO.out (by decide) g9 r9); have S8 := Lib.hid (own_held R8.out RO.out (by decide) g9 r9); have B9 := Lib.hid (below_at B3.out hB3 g9 r9 (fun a ha => (RO.out.blk a ha).1)); clear o9 g9 r9 d9)
          go_roundw
          case rel => exact ⟨k + 1, n7, r.zs, r.ps, ms ++ r.ms, A7, c7, A8, m8, c8, As2, q + qs, cs2, by omega, rfl, by go_num, HL7, HL8, Lib.hid (by rw [List.length_append, hms.out, HLS.out]), HF2, HE, Q9.out, S7.out, S8.out, S9.out, B9.out⟩
          case measure => simp [intOf]; omega
        have HE := Lib.hid ((runL_not HE0.out HRR.out hc).symm.trans hE.out)
        clear hE
        have hcb : (r.code == 0) = false := by simpa using hc
        go_wp2
        go_roundw
        case rel => exact ⟨k + 1, n3, nx, ps, ms, A3, c3, A5, m5, c5, Ao, q, co, by omega, rfl, by go_num, hnx, hps, hms, Lib.hid hF.out.next, HE, Q2.out.alloc _, P3.out.alloc _, P5.out.alloc _, PO.out.alloc _, B2.out.alloc hb2 _⟩
        case measure => simp [intOf]; omega
      have HE := Lib.hid (by have h := hE.out; rw [runL_end (by rw [HN.out]; omega)] at h; exact h : ms = R)
      clear hE
      go_wp2
      go_ret
      exact ⟨Ao, q, co, rfl, by rw [← HE.out]; exact hms.out, by rw [← HE.out]; exact OO.out, B.out⟩
  have HR := Lib.hid (by have h := hR; unfold runM at h; rw [if_neg hsn] at h; exact h : [] = R)
  clear hR
  go_enter Try.func9, Try.ntmps9
  go_wp2_with fail
  refine (iasm_no sn (by omega) _).mono ?_
  rintro e w1 ⟨rfl, b1⟩
  have B1 := Lib.hid b1
  clear b1
  go_wp2
  go_ret
  exact ⟨none, 0, 0, rfl, by rw [← HR.out]; rfl, by rw [← HR.out]; exact Own.nil _ _ _ _, B1.out.alloc B1.out.size _⟩
end Go.Proofs.Ytkhaodbcnnlhaaa
