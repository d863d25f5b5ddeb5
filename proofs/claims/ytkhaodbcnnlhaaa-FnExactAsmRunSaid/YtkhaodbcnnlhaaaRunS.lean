/-
  What AsmRun of the reference returns. Conditions: those that each theorem bears.
-/
import Derived.Test.YtkhaodbcnnlhaaaRunP
import Derived.Test.YtkhaodbcnnlhaaaAddS
namespace Go.Proofs.Ytkhaodbcnnlhaaa
open Go.ChangeShapes Go.WideShapes Go.ChangeAt Go.RowKit
set_option linter.unusedVariables false
set_option linter.unusedSimpArgs false
set_option maxHeartbeats 12800000 in
set_option maxRecDepth 100000 in
theorem sasm_run (sn : Int) (A : Option Addr) (n c : Nat) (l : List Dat) {R : List Msg} (hR : runM sn l = R) (w : World) (hs : Sl w w.heap.size A (dats l)) (hn : l.length = n) (hn2 : n ≤ 1048576) (ht : Dats l) :
    Calls Try.prog 7 #[.int .i64 sn, .slice A n c] w (MadeM R w) := by
  have HS := Lib.hid hs; have HN := Lib.hid hn; have HT := Lib.hid ht; clear hs hn ht
  by_cases hsn : 1 ≤ sn ∧ sn ≤ 4
  · skip
    obtain ⟨s, rfl⟩ : ∃ s : Nat, sn = (s : Int) := ⟨sn.toNat, by omega⟩
    have hs1 : 1 ≤ s := by omega
    have hs4 : s ≤ 4 := by omega
    have HR := Lib.hid (by have h := hR; unfold runM at h; rw [if_pos hsn, Int.toNat_natCast] at h; exact h : runL l (List.replicate s 0) [] [] = R)
    clear hR hsn
    have HF0 := Lib.hid (runFit_start l s hs4)
    go_enter Try.func7, Try.ntmps7
    go_wp2_with fail
    refine (sasm_yes s hs1 hs4 _).mono ?_
    rintro e w1 ⟨A3, c3, A5, c5, rfl, o3, o5, b1'⟩
    have B1 := Lib.hid (((Below.refl w.heap.size w).alloc (Nat.le_refl _) (.cells #[] 64)).trans (b1'.mono (by simp)))
    have O3 := Lib.hid (by exact o3.lower (by simp) : Own w1 w.heap.size 3 1 A3 s c3 (ints (List.replicate s 0)))
    have O5 := Lib.hid (by exact o5.lower (by simp) : Own w1 w.heap.size 45 7 A5 0 c5 (dats []))
    have OM := Lib.hid ((Own.made w w.heap.size 64 4 #[] 0 (Nat.le_refl _) (by unfold maxLen; omega) rfl).below b1' (Nat.le_refl _))
    have hb1 := B1.out.size
    clear b1' o3 o5
    have Q1 := Lib.hid (Blk.new w1 #[.slice A3 s c3, .slice A5 0 c5] 41)
    go_wp2
    go_loopw [5, 8] (fun ov iv wr => ∃ (k n3 : Nat) (nx : List Int) (ps : List Dat) (ms : List Msg) (A3 : Option Addr) (c3 : Nat) (A5 : Option Addr) (m5 c5 : Nat) (Ao : Option Addr) (q co : Nat), k ≤ n ∧ ov = .slice Ao q co ∧ iv = .int .i64 k ∧ Hid (nx.length = n3) ∧ Hid (ps.length = m5) ∧ Hid (ms.length = q) ∧ Hid (RunFit k l nx ps ms) ∧ Hid (runL (l.drop k) nx ps ms = R) ∧ Blk wr w1.heap.size #[.slice A3 n3 c3, .slice A5 m5 c5] 41 ∧ Own wr w.heap.size 3 1 A3 n3 c3 (ints nx) ∧ Own wr w.heap.size 45 7 A5 m5 c5 (dats ps) ∧ Own wr w.heap.size 64 4 Ao q co (msgs ms) ∧ Below w.heap.size w wr) (fun _ iv _ => n - (intOf iv).toNat)
    case atStart => exact ⟨0, s, List.replicate s 0, [], [], A3, c3, A5, 0, c5, some ⟨w.heap.size, 0, none⟩, 0, 0, by omega, rfl, rfl, Lib.hid (by rw [List.length_replicate]), Lib.hid rfl, Lib.hid rfl, HF0, HR, Q1.out, O3.out.alloc _, O5.out.alloc _, OM.out.alloc _, B1.out.alloc hb1 _⟩
    case round =>
      clear Q1 O3 O5 B1 HR HF0 OM
      obtain ⟨k, n3, nx, ps, ms, A3, c3, A5, m5, c5, Ao, q, co, hk, rfl, rfl, hnx, hps, hms, hF, hE, hQ, h3, h5, ho, hb⟩ := hrel
      have Q := Lib.hid hQ
      have O3 := Lib.hid h3
      have O5 := Lib.hid h5
      have OO := Lib.hid ho
      have B := Lib.hid hb
      clear hQ h3 h5 ho hb
      have hbw := B.out.size
      have hn3 : n3 ≤ 4 := by rw [← hnx.out]; exact hF.out.hnx
      have hm5 : m5 ≤ 13 := by rw [← hps.out]; exact hF.out.hps
      have hqk : q ≤ k := by have := hF.out.cnt; rw [hms.out] at this; omega
      have hcap := O5.out.caps
      have hcap2 : c5 ≤ 9223372036854775807 := by have := hcap.2; unfold maxLen at this; exact this
      by_cases hlt : k < n
      · obtain ⟨e, he⟩ := fget_of_lt (xs := l) (k := k) (by rw [HN.out]; exact hlt)
        obtain ⟨b, off, rfl, hbl, ⟨e0, e1, e2, e3, e4, e5, e6⟩⟩ := dats_elem ((HS.out.below B.out (Nat.le_refl _)).more B.out.size) he
        have hht := HT.out _ (List.mem_of_getElem? he)
        have HE0 := Lib.hid he
        clear he
        obtain ⟨f0, f1, f2, f3, f4, f5, f6⟩ := e
        have hf6 : f6.size ≤ 9223372036854775807 := hht.2.2.2
        clear hht
        change World.cell? _ _ = some (.int .i64 f0) at e0
        change World.cell? _ _ = some (.int .i64 f1) at e1
        change World.cell? _ _ = some (.int .i64 f2) at e2
        change World.cell? _ _ = some (.bool f3) at e3
        change World.cell? _ _ = some (.bool f4) at e4
        change World.cell? _ _ = some (.bool f5) at e5
        change World.cell? _ _ = some (.string f6) at e6
        have hki : (0 : Int) ≤ (k : Int) := by omega
        have hkn : (k : Int) < (n : Int) := by omega
        have k0 : wr.cell? ⟨w1.heap.size, 0, none⟩ = some (.slice A3 n3 c3) := Q.out.get 0 rfl
        have k1 : wr.cell? ⟨w1.heap.size, 1, none⟩ = some (.slice A5 m5 c5) := Q.out.get 1 rfl
        have hql := Q.out.lt
        obtain ⟨r, hr⟩ : ∃ r, addA nx ps ⟨f0, f1, f2, f3, f4, f5, f6⟩ = r := ⟨_, rfl⟩
        have HRR := Lib.hid hr
        go_wp2
        refine wp_region_held_drew (S := fun w' => w'.cell? ⟨w1.heap.size, 0, none⟩ = some (.slice A3 n3 c3) ∧ w'.cell? ⟨w1.heap.size, 1, none⟩ = some (.slice A5 m5 c5) ∧ w'.cell? ⟨b, off + k * 7, none⟩ = some (.int .i64 f0) ∧ w'.cell? ⟨b, off + k * 7 + 1, none⟩ = some (.int .i64 f1) ∧ w'.cell? ⟨b, off + k * 7 + 2, none⟩ = some (.int .i64 f2) ∧ w'.cell? ⟨b, off + k * 7 + 3, none⟩ = some (.bool f3) ∧ w'.cell? ⟨b, off + k * 7 + 4, none⟩ = some (.bool f4) ∧ w'.cell? ⟨b, off + k * 7 + 5, none⟩ = some (.bool f5) ∧ w'.cell? ⟨b, off + k * 7 + 6, none⟩ = some (.string f6)) (by kernel_rfl) (by first | exact ⟨k0, k1, e0, e1, e2, e3, e4, e5, e6⟩ | go_keep) (fun hHeld => ?_)
        refine wpAnyH_take (i := 0) (oi := ⟨some 28, _, _, _, _, _⟩) (v := ?_) rfl (by kernel_rfl) (by kernel_rfl) (by kernel_rfl) (fun _ _ _ h => h) (Or.inl ⟨by kernel_rfl, ?y1⟩) (by assumption) ?_
        case y1 => (intro w hSw; (try dsimp only at hSw); first | (go_simp; done) | (go_simp; with_reducible rfl))
        simp only [Act.put, List.setIfInBounds_toArray, List.set_cons_zero, List.set_cons_succ]
        refine wpAnyH_take (i := 1) (oi := ⟨some 29, _, _, _, _, _⟩) (v := ?_) rfl (by kernel_rfl) (by kernel_rfl) (by kernel_rfl) (fun _ _ _ h => h) (Or.inl ⟨by kernel_rfl, ?y2⟩) (by assumption) ?_
        case y2 => (intro w hSw; (try dsimp only at hSw); first | (go_simp; done) | (go_simp; with_reducible rfl))
        simp only [Act.put, List.setIfInBounds_toArray, List.set_cons_zero, List.set_cons_succ]
        refine wpAnyH_take (i := 2) (oi := ⟨some 30, _, _, _, _, _⟩) (v := ?_) rfl (by kernel_rfl) (by kernel_rfl) (by kernel_rfl) (fun _ _ _ h => h) (Or.inl ⟨by kernel_rfl, ?y3⟩) (by assumption) ?_
        case y3 => (intro w hSw; (try dsimp only at hSw); first | (go_simp; done) | (go_simp; with_reducible rfl))
        simp only [Act.put, List.setIfInBounds_toArray, List.set_cons_zero, List.set_cons_succ]
        refine wpAnyH_take (i := 3) (oi := ⟨some 31, _, _, _, _, _⟩) (v := ?_) rfl (by kernel_rfl) (by kernel_rfl) (by kernel_rfl) (fun _ _ _ h => h) (Or.inl ⟨by kernel_rfl, ?y4⟩) (by assumption) ?_
        case y4 => (intro w hSw; (try dsimp only at hSw); first | (go_simp; done) | (go_simp; with_reducible rfl))
        simp only [Act.put, List.setIfInBounds_toArray, List.set_cons_zero, List.set_cons_succ]
        refine wpAnyH_take (i := 4) (oi := ⟨some 32, _, _, _, _, _⟩) (v := ?_) rfl (by kernel_rfl) (by kernel_rfl) (by kernel_rfl) (fun _ _ _ h => h) (Or.inl ⟨by kernel_rfl, ?y5⟩) (by assumption) ?_
        case y5 => (intro w hSw; (try dsimp only at hSw); first | (go_simp; done) | (go_simp; with_reducible rfl))
        simp only [Act.put, List.setIfInBounds_toArray, List.set_cons_zero, List.set_cons_succ]
        refine wpAnyH_ready (rs := [5, 10]) (by kernel_rfl) (by simp) ?_
        refine AllReadyH.cons (o := ⟨some 33, _, _, _, _, _⟩) rfl (fun K hK => ?_) ?_
        · skip
          (go_simp; go_at_call 17; (with_reducible refine (sasm_add A3 n3 c3 nx A5 m5 c5 ps f0 f1 f2 f3 f4 f5 f6 hr _ (O3.out.drew).sl (O5.out.drew).sl hnx.out hps.out (by omega) hcap.1 hcap2 hF.out.ht hf6).mono ?_); rintro e w2 ⟨A7, n7, c7, A8, m8, c8, As, qs, cs, rfl, hl7, hl8, hls, o7, o8, os, b2⟩; skip; have B2 := Lib.hid (bstep B.out.drew b2 hbw); have Q2 := Lib.hid ((Q.out.drew).below b2 ((Q.out.drew).lt)); have P3 := Lib.hid ((O3.out.drew).below b2 (Nat.le_refl _)); have P5 := Lib.hid ((O5.out.drew).below b2 (Nat.le_refl _)); have PO := Lib.hid ((OO.out.drew).below b2 (Nat.le_refl _)); have O7 := Lib.hid (o7.lower (b := w.heap.size) hbw); have O8 := Lib.hid (o8.lower (b := w.heap.size) hbw); have OS := Lib.hid (os.lower (b := w.heap.size) hbw); have HL7 := Lib.hid hl7; have HL8 := Lib.hid hl8; have HLS := Lib.hid hls; have hb2 := B2.out.size; have m0 : w2.cell? ⟨w1.heap.size, 0, none⟩ = some (.slice A3 n3 c3) := Q2.out.get 0 rfl; have m1 : w2.cell? ⟨w1.heap.size, 1, none⟩ = some (.slice A5 m5 c5) := Q2.out.get 1 rfl; have hql2 := Q2.out.lt; have hbl2 : b < w2.heap.size := Nat.lt_of_lt_of_le hbl b2.size; have v0 := (b2.cell (p := ⟨b, off + k * 7, none⟩) hbl).trans (e0); have v1 := (b2.cell (p := ⟨b, off + k * 7 + 1, none⟩) hbl).trans (e1); have v2 := (b2.cell (p := ⟨b, off + k * 7 + 2, none⟩) hbl).trans (e2); have v3 := (b2.cell (p := ⟨b, off + k * 7 + 3, none⟩) hbl).trans (e3); have v4 := (b2.cell (p := ⟨b, off + k * 7 + 4, none⟩) hbl).trans (e4); have v5 := (b2.cell (p := ⟨b, off + k * 7 + 5, none⟩) hbl).trans (e5); have v6 := (b2.cell (p := ⟨b, off + k * 7 + 6, none⟩) hbl).trans (e6); skip; clear b2 o7 o8 os hl7 hl8 hls; first | go_wp2_with fail | skip)
          refine hK.out _ _ (by first | exact ⟨m0, m1, v0, v1, v2, v3, v4, v5, v6⟩ | go_keep) (fun hHeld => ?_)
          clear hK K
          try simp only [Act.put, List.setIfInBounds_toArray, List.set_cons_zero, List.set_cons_succ]
          refine wpAnyH_take (i := 6) (oi := ⟨some 27, _, _, _, _, _⟩) (v := ?_) rfl (by kernel_rfl) (by kernel_rfl) (by kernel_rfl) (fun _ _ _ h => h) (Or.inl ⟨by kernel_rfl, ?y6⟩) (by assumption) ?_
          case y6 => (intro w hSw; (try dsimp only at hSw); first | (go_simp; done) | (go_simp; with_reducible rfl))
          simp only [Act.put, List.setIfInBounds_toArray, List.set_cons_zero, List.set_cons_succ]
          refine wpAnyH_take (i := 7) (oi := ⟨some 34, _, _, _, _, _⟩) (v := ?_) rfl (by kernel_rfl) (by kernel_rfl) (by kernel_rfl) (fun _ _ _ h => h) (Or.inl ⟨by kernel_rfl, ?y7⟩) (by assumption) ?_
          case y7 => (intro w hSw; (try dsimp only at hSw); first | (go_simp; done) | (go_simp; with_reducible rfl))
          simp only [Act.put, List.setIfInBounds_toArray, List.set_cons_zero, List.set_cons_succ]
          refine wpAnyH_take (i := 8) (oi := ⟨some 35, _, _, _, _, _⟩) (v := ?_) rfl (by kernel_rfl) (by kernel_rfl) (by kernel_rfl) (fun _ _ _ h => h) (Or.inl ⟨by kernel_rfl, ?y8⟩) (by assumption) ?_
          case y8 => (intro w hSw; (try dsimp only at hSw); first | (go_simp; done) | (go_simp; with_reducible rfl))
          simp only [Act.put, List.setIfInBounds_toArray, List.set_cons_zero, List.set_cons_succ]
          refine wpAnyH_take (i := 9) (oi := ⟨some 36, _, _, _, _, _⟩) (v := ?_) rfl (by kernel_rfl) (by kernel_rfl) (by kernel_rfl) (fun _ _ _ h => h) (Or.inl ⟨by kernel_rfl, ?y9⟩) (by assumption) ?_
          case y9 => (intro w hSw; (try dsimp only at hSw); first | (go_simp; done) | (go_simp; with_reducible rfl))
          simp only [Act.put, List.setIfInBounds_toArray, List.set_cons_zero, List.set_cons_succ]
          refine wpAnyH_ready (rs := [10]) (by kernel_rfl) (by simp) ?_
          refine AllReadyH.cons (o := ⟨some 9, _, _, _, _, _⟩) rfl (fun K hK => ?_) AllReadyH.nil
          go_simp
          refine hK.out _ _ (by first | exact ⟨m0, m1, v0, v1, v2, v3, v4, v5, v6⟩ | go_keep) (fun hHeld => ?_)
          clear hK K
          try simp only [Act.put, List.setIfInBounds_toArray, List.set_cons_zero, List.set_cons_succ]
          refine wpAnyH_ready (rs := [11]) (by kernel_rfl) (by simp) ?_
          refine AllReadyH.cons (o := ⟨none, _, _, _, _, _⟩) rfl (fun K hK => ?_) AllReadyH.nil
          go_simp
          refine hK.out _ _ (by first | exact ⟨m0, m1, v0, v1, v2, v3, v4, v5, v6⟩ | go_keep) (fun hHeld => ?_)
          clear hK K
          try simp only [Act.put, List.setIfInBounds_toArray, List.set_cons_zero, List.set_cons_succ]
          refine wpAnyH_take (i := 12) (oi := ⟨some 10, _, _, _, _, _⟩) (v := ?_) rfl (by kernel_rfl) (by kernel_rfl) (by kernel_rfl) (fun _ _ _ h => h) (Or.inl ⟨by kernel_rfl, ?y10⟩) (by assumption) ?_
          case y10 => (intro w hSw; (try dsimp only at hSw); first | (go_simp; done) | (go_simp; with_reducible rfl))
          simp only [Act.put, List.setIfInBounds_toArray, List.set_cons_zero, List.set_cons_succ]
          refine wpAnyH_take (i := 13) (oi := ⟨some 11, _, _, _, _, _⟩) (v := ?_) rfl (by kernel_rfl) (by kernel_rfl) (by kernel_rfl) (fun _ _ _ h => h) (Or.inl ⟨by kernel_rfl, ?y11⟩) (by assumption) ?_
          case y11 => (intro w hSw; (try dsimp only at hSw); first | (go_simp; done) | (go_simp; with_reducible rfl))
          simp only [Act.put, List.setIfInBounds_toArray, List.set_cons_zero, List.set_cons_succ]
          refine wpAnyH_done (by kernel_rfl) ?_ _
          first | (obtain ⟨w3, hw3⟩ : ∃ x, x = w2.alloc (.cells #[.slice A7 n7 c7, .slice A8 m8 c8] 41) := ⟨_, rfl⟩; rw [← hw3]; obtain ⟨g9, hg9⟩ : ∃ g, g = w2.heap.size := ⟨_, rfl⟩; rw [← hg9]; have N9 := Lib.hid (by rw [hw3, hg9]; exact Blk.new w2 _ _ : Blk w3 g9 #[.slice A7 n7 c7, .slice A8 m8 c8] 41); have Q3 := Lib.hid (by rw [hw3]; exact Q2.out.alloc _ : Blk w3 w1.heap.size #[.slice A3 n3 c3, .slice A5 m5 c5] 41); have S3 := Lib.hid (by rw [hw3]; exact P3.out.alloc _ : Own w3 w.heap.size 3 1 A3 n3 c3 (ints nx)); have S5 := Lib.hid (by rw [hw3]; exact P5.out.alloc _ : Own w3 w.heap.size 45 7 A5 m5 c5 (dats ps)); have SO := Lib.hid (by rw [hw3]; exact PO.out.alloc _ : Own w3 w.heap.size 64 4 Ao q co (msgs ms)); have S7 := Lib.hid (by rw [hw3]; exact O7.out.alloc _ : Own w3 w.heap.size 3 1 A7 n7 c7 (ints r.zs)); have S8 := Lib.hid (by rw [hw3]; exact O8.out.alloc _ : Own w3 w.heap.size 45 7 A8 m8 c8 (dats r.ps)); have SS := Lib.hid (by rw [hw3]; exact OS.out.alloc _ : Own w3 w.heap.size 64 4 As qs cs (msgs r.ms)); have B3 := Lib.hid (by rw [hw3]; exact B2.out.alloc hb2 _ : Below w.heap.size w w3); clear hw3 hg9) | (obtain ⟨w3, hw3⟩ : ∃ x, x = ((w2.setCell ⟨wr.heap.size, 0, none⟩ (.slice A7 n7 c7)).setCell ⟨wr.heap.size, 1, none⟩ (.slice A8 m8 c8)) := ⟨_, rfl⟩; rw [← hw3]; have N3 := N2.out.set_ 0 (.slice A7 n7 c7); obtain ⟨g9, hg9⟩ : ∃ g, g = wr.heap.size := ⟨_, rfl⟩; rw [← hg9]; have N9 := Lib.hid (by rw [hw3, hg9]; exact N3.set_ 1 (.slice A8 m8 c8) : Blk w3 g9 #[.slice A7 n7 c7, .slice A8 m8 c8] 41); have Q3 := Lib.hid (by rw [hw3]; exact (Q2.out.far (p := ⟨wr.heap.size, 0, none⟩) (by show w1.heap.size ≠ wr.heap.size; omega) _).far (p := ⟨wr.heap.size, 1, none⟩) (by show w1.heap.size ≠ wr.heap.size; omega) _ : Blk w3 w1.heap.size #[.slice A3 n3 c3, .slice A5 m5 c5] 41); have S3 := Lib.hid (by rw [hw3]; exact own_far (own_far P3.out N2.out (by decide) 0 _) N3 (by decide) 1 _ : Own w3 w.heap.size 3 1 A3 n3 c3 (ints nx)); have S5 := Lib.hid (by rw [hw3]; exact own_far (own_far P5.out N2.out (by decide) 0 _) N3 (by decide) 1 _ : Own w3 w.heap.size 45 7 A5 m5 c5 (dats ps)); have SO := Lib.hid (by rw [hw3]; exact own_far (own_far PO.out N2.out (by decide) 0 _) N3 (by decide) 1 _ : Own w3 w.heap.size 64 4 Ao q co (msgs ms)); have S7 := Lib.hid (by rw [hw3]; exact own_far (own_far O7.out N2.out (by decide) 0 _) N3 (by decide) 1 _ : Own w3 w.heap.size 3 1 A7 n7 c7 (ints r.zs)); have S8 := Lib.hid (by rw [hw3]; exact own_far (own_far O8.out N2.out (by decide) 0 _) N3 (by decide) 1 _ : Own w3 w.heap.size 45 7 A8 m8 c8 (dats r.ps)); have SS := Lib.hid (by rw [hw3]; exact own_far (own_far OS.out N2.out (by decide) 0 _) N3 (by decide) 1 _ : Own w3 w.heap.size 64 4 As qs cs (msgs r.ms)); have B3 := Lib.hid (by rw [hw3]; exact (B2.out.setCell (p := ⟨wr.heap.size, 0, none⟩) hbw _).setCell (p := ⟨wr.heap.size, 1, none⟩) hbw _ : Below w.heap.size w w3); clear hw3 hg9 N3)
          clear k0 k1 e0 e1 e2 e3 e4 e5 e6 v0 v1 v2 v3 v4 v5 v6 hql hbl hbl2 hql2 m0 m1
          clear Q O3 O5 OO B hr Q2 P3 P5 PO O7 O8 OS B2
          have kf0 := Q3.out.frozen 0
          have kf1 := Q3.out.frozen 1
          have k0 : w3.cell? ⟨w1.heap.size, 0, none⟩ = some (.slice A3 n3 c3) := Q3.out.get 0 rfl
          have k1 : w3.cell? ⟨w1.heap.size, 1, none⟩ = some (.slice A5 m5 c5) := Q3.out.get 1 rfl
          have hql := Q3.out.lt
          have n0 : w3.cell? ⟨g9, 0, none⟩ = some (.slice A7 n7 c7) := N9.out.get 0 rfl
          have n1 : w3.cell? ⟨g9, 1, none⟩ = some (.slice A8 m8 c8) := N9.out.get 1 rfl
          have hgl := N9.out.lt
          have hB3 := B3.out.size
          obtain ⟨j0, hj, hy0, hy1, hy2⟩ := info_parts info_msg
          by_cases hc : r.code = 3
          · skip
            have hcb : (r.code != 3) = false := by simp [hc]
            have hmsn := (run_bad (out := ms) HE0.out HRR.out hc).1
            have HE := Lib.hid ((run_bad (out := ms) HE0.out HRR.out hc).2.symm.trans hE.out)
            clear hE
            have hqs0 : qs = 0 := by rw [← HLS.out, hmsn]; rfl
            go_wp2_with (at_builtin; refine wpList_app _ rfl _ _ _ rfl w.heap.size 64 j0 (.agg #[.int .i64 0, .int .i64 0, .bool false, .string ⟨#[]⟩]) 4 40 Try.underlying24 hj hy0 hy1 hy2 rfl (by decide) Ao q co (msgs ms) rfl SO.out _ As qs cs (msgs r.ms) rfl SS.out.sl (by rw [msgs_len, HLS.out]) (msgs_one _) (by unfold maxLen; omega) (by omega) hB3 ?_; intro As2 cs2 row w9 o9 g9' r9 d9; rw [← msgs_app] at o9; have Z9 := Lib.hid o9; have Q9 := Lib.hid (blk_held Q3.out SO.out (by decide) g9' r9); have Z7 := Lib.hid (own_held S3.out SO.out (by decide) g9' r9); have Z8 := Lib.hid (own_held S5.out SO.out (by decide) g9' r9); have B9 := Lib.hid (below_at B3.out hB3 g9' r9 (fun a ha => (SO.out.blk a ha).1)); clear o9 g9' r9 d9)
            rw [hmsn, List.append_nil] at Z9
            subst hqs0
            go_roundw
            case rel => exact ⟨k + 1, n3, nx, ps, ms, A3, c3, A5, m5, c5, As2, q, cs2, by omega, rfl, by go_num, hnx, hps, hms, Lib.hid hF.out.next, HE, Q9.out, Z7.out, Z8.out, Z9.out, B9.out⟩
            case measure => simp [intOf]; omega
          have hcb : (r.code != 3) = true := by simp [hc]
          have HE := Lib.hid ((run_taken hF.out HT.out HE0.out HRR.out hc).2.symm.trans hE.out)
          have HF2 := Lib.hid (run_taken hF.out HT.out HE0.out HRR.out hc).1
          clear hE
          have hqs : q + qs ≤ 1048577 := by have := HF2.out.cnt; rw [List.length_append, hms.out, HLS.out] at this; omega
          have H1 := Q3.out.set_ 0 (.slice A7 n7 c7)
          have Q4 := Lib.hid (H1.set_ 1 (.slice A8 m8 c8))
          have R7 := Lib.hid (own_far (own_far S7.out Q3.out (by decide) 0 (.slice A7 n7 c7)) H1 (by decide) 1 (.slice A8 m8 c8))
          have R8 := Lib.hid (own_far (own_far S8.out Q3.out (by decide) 0 (.slice A7 n7 c7)) H1 (by decide) 1 (.slice A8 m8 c8))
          have RO := Lib.hid (own_far (own_far SO.out Q3.out (by decide) 0 (.slice A7 n7 c7)) H1 (by decide) 1 (.slice A8 m8 c8))
          have RS := Lib.hid (own_far (own_far SS.out Q3.out (by decide) 0 (.slice A7 n7 c7)) H1 (by decide) 1 (.slice A8 m8 c8))
          have B4 := Lib.hid ((B3.out.setCell (p := ⟨w1.heap.size, 0, none⟩) hb1 (.slice A7 n7 c7)).setCell (p := ⟨w1.heap.size, 1, none⟩) hb1 (.slice A8 m8 c8))
          clear H1
          have hB4 := B4.out.size
          go_wp2_with (at_builtin; refine wpList_app _ rfl _ _ _ rfl w.heap.size 64 j0 (.agg #[.int .i64 0, .int .i64 0, .bool false, .string ⟨#[]⟩]) 4 40 Try.underlying24 hj hy0 hy1 hy2 rfl (by decide) Ao q co (msgs ms) rfl RO.out _ As qs cs (msgs r.ms) rfl RS.out.sl (by rw [msgs_len, HLS.out]) (msgs_one _) (by unfold maxLen; omega) (by omega) hB4 ?_; intro As2 cs2 row w9 o9 g9' r9 d9; rw [← msgs_app] at o9; have Z9 := Lib.hid o9; have Q9 := Lib.hid (blk_held Q4.out RO.out (by decide) g9' r9); have Z7 := Lib.hid (own_held R7.out RO.out (by decide) g9' r9); have Z8 := Lib.hid (own_held R8.out RO.out (by decide) g9' r9); have B9 := Lib.hid (below_at B4.out hB4 g9' r9 (fun a ha => (RO.out.blk a ha).1)); clear o9 g9' r9 d9)
          go_roundw
          case rel => exact ⟨k + 1, n7, r.zs, r.ps, ms ++ r.ms, A7, c7, A8, m8, c8, As2, q + qs, cs2, by omega, rfl, by go_num, HL7, HL8, Lib.hid (by rw [List.length_append, hms.out, HLS.out]), HF2, HE, Q9.out, Z7.out, Z8.out, Z9.out, B9.out⟩
          case measure => simp [intOf]; omega
        refine AllReadyH.cons (o := ⟨some 9, _, _, _, _, _⟩) rfl (fun K hK => ?_) ?_
        · skip
          go_simp
          refine hK.out _ _ (by first | exact ⟨k0, k1, e0, e1, e2, e3, e4, e5, e6⟩ | go_keep) (fun hHeld => ?_)
          clear hK K
          try simp only [Act.put, List.setIfInBounds_toArray, List.set_cons_zero, List.set_cons_succ]
          refine wpAnyH_ready (rs := [5]) (by kernel_rfl) (by simp) ?_
          refine AllReadyH.cons (o := ⟨some 33, _, _, _, _, _⟩) rfl (fun K hK => ?_) AllReadyH.nil
          (go_simp; go_at_call 17; (with_reducible refine (sasm_add A3 n3 c3 nx A5 m5 c5 ps f0 f1 f2 f3 f4 f5 f6 hr _ ((O3.out.alloc (.cells #[.slice none 0 0, .slice none 0 0] 41)).drew).sl ((O5.out.alloc (.cells #[.slice none 0 0, .slice none 0 0] 41)).drew).sl hnx.out hps.out (by omega) hcap.1 hcap2 hF.out.ht hf6).mono ?_); rintro e w2 ⟨A7, n7, c7, A8, m8, c8, As, qs, cs, rfl, hl7, hl8, hls, o7, o8, os, b2⟩; have N2 := Lib.hid ((Blk.new wr #[.slice none 0 0, .slice none 0 0] 41).drew.below b2 (by simp)); have nf0 := N2.out.frozen 0; have nf1 := N2.out.frozen 1; have nl := N2.out.lt; have nn0 : w2.cell? ⟨wr.heap.size, 0, none⟩ = some (.slice none 0 0) := N2.out.get 0 rfl; have nn1 : w2.cell? ⟨wr.heap.size, 1, none⟩ = some (.slice none 0 0) := N2.out.get 1 rfl; have B2 := Lib.hid (bstep (B.out.alloc hbw (.cells #[.slice none 0 0, .slice none 0 0] 41)).drew b2 (by simp; omega)); have Q2 := Lib.hid (((Q.out.alloc (.cells #[.slice none 0 0, .slice none 0 0] 41)).drew).below b2 (((Q.out.alloc (.cells #[.slice none 0 0, .slice none 0 0] 41)).drew).lt)); have P3 := Lib.hid (((O3.out.alloc (.cells #[.slice none 0 0, .slice none 0 0] 41)).drew).below b2 (Nat.le_refl _)); have P5 := Lib.hid (((O5.out.alloc (.cells #[.slice none 0 0, .slice none 0 0] 41)).drew).below b2 (Nat.le_refl _)); have PO := Lib.hid (((OO.out.alloc (.cells #[.slice none 0 0, .slice none 0 0] 41)).drew).below b2 (Nat.le_refl _)); have O7 := Lib.hid (o7.lower (b := w.heap.size) (by simp; omega)); have O8 := Lib.hid (o8.lower (b := w.heap.size) (by simp; omega)); have OS := Lib.hid (os.lower (b := w.heap.size) (by simp; omega)); have HL7 := Lib.hid hl7; have HL8 := Lib.hid hl8; have HLS := Lib.hid hls; have hb2 := B2.out.size; have m0 : w2.cell? ⟨w1.heap.size, 0, none⟩ = some (.slice A3 n3 c3) := Q2.out.get 0 rfl; have m1 : w2.cell? ⟨w1.heap.size, 1, none⟩ = some (.slice A5 m5 c5) := Q2.out.get 1 rfl; have hql2 := Q2.out.lt; have hbl2 : b < w2.heap.size := Nat.lt_of_lt_of_le (by simp; omega) b2.size; have v0 := (b2.cell (p := ⟨b, off + k * 7, none⟩) (by simp; omega)).trans ((World.cell?_alloc_lt wr (.cells #[.slice none 0 0, .slice none 0 0] 41) ⟨b, off + k * 7, none⟩ hbl).trans e0); have v1 := (b2.cell (p := ⟨b, off + k * 7 + 1, none⟩) (by simp; omega)).trans ((World.cell?_alloc_lt wr (.cells #[.slice none 0 0, .slice none 0 0] 41) ⟨b, off + k * 7 + 1, none⟩ hbl).trans e1); have v2 := (b2.cell (p := ⟨b, off + k * 7 + 2, none⟩) (by simp; omega)).trans ((World.cell?_alloc_lt wr (.cells #[.slice none 0 0, .slice none 0 0] 41) ⟨b, off + k * 7 + 2, none⟩ hbl).trans e2); have v3 := (b2.cell (p := ⟨b, off + k * 7 + 3, none⟩) (by simp; omega)).trans ((World.cell?_alloc_lt wr (.cells #[.slice none 0 0, .slice none 0 0] 41) ⟨b, off + k * 7 + 3, none⟩ hbl).trans e3); have v4 := (b2.cell (p := ⟨b, off + k * 7 + 4, none⟩) (by simp; omega)).trans ((World.cell?_alloc_lt wr (.cells #[.slice none 0 0, .slice none 0 0] 41) ⟨b, off + k * 7 + 4, none⟩ hbl).trans e4); have v5 := (b2.cell (p := ⟨b, off + k * 7 + 5, none⟩) (by simp; omega)).trans ((World.cell?_alloc_lt wr (.cells #[.slice none 0 0, .slice none 0 0] 41) ⟨b, off + k * 7 + 5, none⟩ hbl).trans e5); have v6 := (b2.cell (p := ⟨b, off + k * 7 + 6, none⟩) (by simp; omega)).trans ((World.cell?_alloc_lt wr (.cells #[.slice none 0 0, .slice none 0 0] 41) ⟨b, off + k * 7 + 6, none⟩ hbl).trans e6); have x_m0 := far_cell (far_cell m0 (p := ⟨wr.heap.size, 0, none⟩) (by show w1.heap.size ≠ wr.heap.size; omega) (.slice A7 n7 c7)) (p := ⟨wr.heap.size, 1, none⟩) (by show w1.heap.size ≠ wr.heap.size; omega) (.slice A8 m8 c8); have x_m1 := far_cell (far_cell m1 (p := ⟨wr.heap.size, 0, none⟩) (by show w1.heap.size ≠ wr.heap.size; omega) (.slice A7 n7 c7)) (p := ⟨wr.heap.size, 1, none⟩) (by show w1.heap.size ≠ wr.heap.size; omega) (.slice A8 m8 c8); have x_v0 := far_cell (far_cell v0 (p := ⟨wr.heap.size, 0, none⟩) (by show b ≠ wr.heap.size; omega) (.slice A7 n7 c7)) (p := ⟨wr.heap.size, 1, none⟩) (by show b ≠ wr.heap.size; omega) (.slice A8 m8 c8); have x_v1 := far_cell (far_cell v1 (p := ⟨wr.heap.size, 0, none⟩) (by show b ≠ wr.heap.size; omega) (.slice A7 n7 c7)) (p := ⟨wr.heap.size, 1, none⟩) (by show b ≠ wr.heap.size; omega) (.slice A8 m8 c8); have x_v2 := far_cell (far_cell v2 (p := ⟨wr.heap.size, 0, none⟩) (by show b ≠ wr.heap.size; omega) (.slice A7 n7 c7)) (p := ⟨wr.heap.size, 1, none⟩) (by show b ≠ wr.heap.size; omega) (.slice A8 m8 c8); have x_v3 := far_cell (far_cell v3 (p := ⟨wr.heap.size, 0, none⟩) (by show b ≠ wr.heap.size; omega) (.slice A7 n7 c7)) (p := ⟨wr.heap.size, 1, none⟩) (by show b ≠ wr.heap.size; omega) (.slice A8 m8 c8); have x_v4 := far_cell (far_cell v4 (p := ⟨wr.heap.size, 0, none⟩) (by show b ≠ wr.heap.size; omega) (.slice A7 n7 c7)) (p := ⟨wr.heap.size, 1, none⟩) (by show b ≠ wr.heap.size; omega) (.slice A8 m8 c8); have x_v5 := far_cell (far_cell v5 (p := ⟨wr.heap.size, 0, none⟩) (by show b ≠ wr.heap.size; omega) (.slice A7 n7 c7)) (p := ⟨wr.heap.size, 1, none⟩) (by show b ≠ wr.heap.size; omega) (.slice A8 m8 c8); have x_v6 := far_cell (far_cell v6 (p := ⟨wr.heap.size, 0, none⟩) (by show b ≠ wr.heap.size; omega) (.slice A7 n7 c7)) (p := ⟨wr.heap.size, 1, none⟩) (by show b ≠ wr.heap.size; omega) (.slice A8 m8 c8); clear b2 o7 o8 os hl7 hl8 hls; first | go_wp2_with fail | skip)
          refine hK.out _ _ (by first | exact ⟨m0, m1, v0, v1, v2, v3, v4, v5, v6⟩ | go_keep) (fun hHeld => ?_)
          clear hK K
          try simp only [Act.put, List.setIfInBounds_toArray, List.set_cons_zero, List.set_cons_succ]
          refine wpAnyH_take (i := 6) (oi := ⟨some 27, _, _, _, _, _⟩) (v := ?_) rfl (by kernel_rfl) (by kernel_rfl) (by kernel_rfl) (fun _ _ _ h => h) (Or.inl ⟨by kernel_rfl, ?y12⟩) (by assumption) ?_
          case y12 => (intro w hSw; (try dsimp only at hSw); first | (go_simp; done) | (go_simp; with_reducible rfl))
          simp only [Act.put, List.setIfInBounds_toArray, List.set_cons_zero, List.set_cons_succ]
          refine wpAnyH_take (i := 7) (oi := ⟨some 34, _, _, _, _, _⟩) (v := ?_) rfl (by kernel_rfl) (by kernel_rfl) (by kernel_rfl) (fun _ _ _ h => h) (Or.inl ⟨by kernel_rfl, ?y13⟩) (by assumption) ?_
          case y13 => (intro w hSw; (try dsimp only at hSw); first | (go_simp; done) | (go_simp; with_reducible rfl))
          simp only [Act.put, List.setIfInBounds_toArray, List.set_cons_zero, List.set_cons_succ]
          refine wpAnyH_take (i := 8) (oi := ⟨some 35, _, _, _, _, _⟩) (v := ?_) rfl (by kernel_rfl) (by kernel_rfl) (by kernel_rfl) (fun _ _ _ h => h) (Or.inl ⟨by kernel_rfl, ?y14⟩) (by assumption) ?_
          case y14 => (intro w hSw; (try dsimp only at hSw); first | (go_simp; done) | (go_simp; with_reducible rfl))
          simp only [Act.put, List.setIfInBounds_toArray, List.set_cons_zero, List.set_cons_succ]
          refine wpAnyH_take (i := 9) (oi := ⟨some 36, _, _, _, _, _⟩) (v := ?_) rfl (by kernel_rfl) (by kernel_rfl) (by kernel_rfl) (fun _ _ _ h => h) (Or.inl ⟨by kernel_rfl, ?y15⟩) (by assumption) ?_
          case y15 => (intro w hSw; (try dsimp only at hSw); first | (go_simp; done) | (go_simp; with_reducible rfl))
          simp only [Act.put, List.setIfInBounds_toArray, List.set_cons_zero, List.set_cons_succ]
          refine wpAnyH_ready (rs := [11]) (by kernel_rfl) (by simp) ?_
          refine AllReadyH.cons (o := ⟨none, _, _, _, _, _⟩) rfl (fun K hK => ?_) AllReadyH.nil
          go_simp
          refine hK.out _ _ (by first | exact ⟨x_m0, x_m1, x_v0, x_v1, x_v2, x_v3, x_v4, x_v5, x_v6⟩) (fun hHeld => ?_)
          clear hK K
          try simp only [Act.put, List.setIfInBounds_toArray, List.set_cons_zero, List.set_cons_succ]
          refine wpAnyH_take (i := 12) (oi := ⟨some 10, _, _, _, _, _⟩) (v := ?_) rfl (by kernel_rfl) (by kernel_rfl) (by kernel_rfl) (fun _ _ _ h => h) (Or.inl ⟨by kernel_rfl, ?y16⟩) (by assumption) ?_
          case y16 => (intro w hSw; (try dsimp only at hSw); first | (go_simp; done) | (go_simp; with_reducible rfl))
          simp only [Act.put, List.setIfInBounds_toArray, List.set_cons_zero, List.set_cons_succ]
          refine wpAnyH_take (i := 13) (oi := ⟨some 11, _, _, _, _, _⟩) (v := ?_) rfl (by kernel_rfl) (by kernel_rfl) (by kernel_rfl) (fun _ _ _ h => h) (Or.inl ⟨by kernel_rfl, ?y17⟩) (by assumption) ?_
          case y17 => (intro w hSw; (try dsimp only at hSw); first | (go_simp; done) | (go_simp; with_reducible rfl))
          simp only [Act.put, List.setIfInBounds_toArray, List.set_cons_zero, List.set_cons_succ]
          refine wpAnyH_done (by kernel_rfl) ?_ _
          first | (obtain ⟨w3, hw3⟩ : ∃ x, x = w2.alloc (.cells #[.slice A7 n7 c7, .slice A8 m8 c8] 41) := ⟨_, rfl⟩; rw [← hw3]; obtain ⟨g9, hg9⟩ : ∃ g, g = w2.heap.size := ⟨_, rfl⟩; rw [← hg9]; have N9 := Lib.hid (by rw [hw3, hg9]; exact Blk.new w2 _ _ : Blk w3 g9 #[.slice A7 n7 c7, .slice A8 m8 c8] 41); have Q3 := Lib.hid (by rw [hw3]; exact Q2.out.alloc _ : Blk w3 w1.heap.size #[.slice A3 n3 c3, .slice A5 m5 c5] 41); have S3 := Lib.hid (by rw [hw3]; exact P3.out.alloc _ : Own w3 w.heap.size 3 1 A3 n3 c3 (ints nx)); have S5 := Lib.hid (by rw [hw3]; exact P5.out.alloc _ : Own w3 w.heap.size 45 7 A5 m5 c5 (dats ps)); have SO := Lib.hid (by rw [hw3]; exact PO.out.alloc _ : Own w3 w.heap.size 64 4 Ao q co (msgs ms)); have S7 := Lib.hid (by rw [hw3]; exact O7.out.alloc _ : Own w3 w.heap.size 3 1 A7 n7 c7 (ints r.zs)); have S8 := Lib.hid (by rw [hw3]; exact O8.out.alloc _ : Own w3 w.heap.size 45 7 A8 m8 c8 (dats r.ps)); have SS := Lib.hid (by rw [hw3]; exact OS.out.alloc _ : Own w3 w.heap.size 64 4 As qs cs (msgs r.ms)); have B3 := Lib.hid (by rw [hw3]; exact B2.out.alloc hb2 _ : Below w.heap.size w w3); clear hw3 hg9) | (obtain ⟨w3, hw3⟩ : ∃ x, x = ((w2.setCell ⟨wr.heap.size, 0, none⟩ (.slice A7 n7 c7)).setCell ⟨wr.heap.size, 1, none⟩ (.slice A8 m8 c8)) := ⟨_, rfl⟩; rw [← hw3]; have N3 := N2.out.set_ 0 (.slice A7 n7 c7); obtain ⟨g9, hg9⟩ : ∃ g, g = wr.heap.size := ⟨_, rfl⟩; rw [← hg9]; have N9 := Lib.hid (by rw [hw3, hg9]; exact N3.set_ 1 (.slice A8 m8 c8) : Blk w3 g9 #[.slice A7 n7 c7, .slice A8 m8 c8] 41); have Q3 := Lib.hid (by rw [hw3]; exact (Q2.out.far (p := ⟨wr.heap.size, 0, none⟩) (by show w1.heap.size ≠ wr.heap.size; omega) _).far (p := ⟨wr.heap.size, 1, none⟩) (by show w1.heap.size ≠ wr.heap.size; omega) _ : Blk w3 w1.heap.size #[.slice A3 n3 c3, .slice A5 m5 c5] 41); have S3 := Lib.hid (by rw [hw3]; exact own_far (own_far P3.out N2.out (by decide) 0 _) N3 (by decide) 1 _ : Own w3 w.heap.size 3 1 A3 n3 c3 (ints nx)); have S5 := Lib.hid (by rw [hw3]; exact own_far (own_far P5.out N2.out (by decide) 0 _) N3 (by decide) 1 _ : Own w3 w.heap.size 45 7 A5 m5 c5 (dats ps)); have SO := Lib.hid (by rw [hw3]; exact own_far (own_far PO.out N2.out (by decide) 0 _) N3 (by decide) 1 _ : Own w3 w.heap.size 64 4 Ao q co (msgs ms)); have S7 := Lib.hid (by rw [hw3]; exact own_far (own_far O7.out N2.out (by decide) 0 _) N3 (by decide) 1 _ : Own w3 w.heap.size 3 1 A7 n7 c7 (ints r.zs)); have S8 := Lib.hid (by rw [hw3]; exact own_far (own_far O8.out N2.out (by decide) 0 _) N3 (by decide) 1 _ : Own w3 w.heap.size 45 7 A8 m8 c8 (dats r.ps)); have SS := Lib.hid (by rw [hw3]; exact own_far (own_far OS.out N2.out (by decide) 0 _) N3 (by decide) 1 _ : Own w3 w.heap.size 64 4 As qs cs (msgs r.ms)); have B3 := Lib.hid (by rw [hw3]; exact (B2.out.setCell (p := ⟨wr.heap.size, 0, none⟩) hbw _).setCell (p := ⟨wr.heap.size, 1, none⟩) hbw _ : Below w.heap.size w w3); clear hw3 hg9 N3)
          clear k0 k1 e0 e1 e2 e3 e4 e5 e6 v0 v1 v2 v3 v4 v5 v6 hql hbl hbl2 hql2 m0 m1
          clear Q O3 O5 OO B hr Q2 P3 P5 PO O7 O8 OS B2
          have kf0 := Q3.out.frozen 0
          have kf1 := Q3.out.frozen 1
          have k0 : w3.cell? ⟨w1.heap.size, 0, none⟩ = some (.slice A3 n3 c3) := Q3.out.get 0 rfl
          have k1 : w3.cell? ⟨w1.heap.size, 1, none⟩ = some (.slice A5 m5 c5) := Q3.out.get 1 rfl
          have hql := Q3.out.lt
          have n0 : w3.cell? ⟨g9, 0, none⟩ = some (.slice A7 n7 c7) := N9.out.get 0 rfl
          have n1 : w3.cell? ⟨g9, 1, none⟩ = some (.slice A8 m8 c8) := N9.out.get 1 rfl
          have hgl := N9.out.lt
          have hB3 := B3.out.size
          obtain ⟨j0, hj, hy0, hy1, hy2⟩ := info_parts info_msg
          by_cases hc : r.code = 3
          · skip
            have hcb : (r.code != 3) = false := by simp [hc]
            have hmsn := (run_bad (out := ms) HE0.out HRR.out hc).1
            have HE := Lib.hid ((run_bad (out := ms) HE0.out HRR.out hc).2.symm.trans hE.out)
            clear hE
            have hqs0 : qs = 0 := by rw [← HLS.out, hmsn]; rfl
            go_wp2_with (at_builtin; refine wpList_app _ rfl _ _ _ rfl w.heap.size 64 j0 (.agg #[.int .i64 0, .int .i64 0, .bool false, .string ⟨#[]⟩]) 4 40 Try.underlying24 hj hy0 hy1 hy2 rfl (by decide) Ao q co (msgs ms) rfl SO.out _ As qs cs (msgs r.ms) rfl SS.out.sl (by rw [msgs_len, HLS.out]) (msgs_one _) (by unfold maxLen; omega) (by omega) hB3 ?_; intro As2 cs2 row w9 o9 g9' r9 d9; rw [← msgs_app] at o9; have Z9 := Lib.hid o9; have Q9 := Lib.hid (blk_held Q3.out SO.out (by decide) g9' r9); have Z7 := Lib.hid (own_held S3.out SO.out (by decide) g9' r9); have Z8 := Lib.hid (own_held S5.out SO.out (by decide) g9' r9); have B9 := Lib.hid (below_at B3.out hB3 g9' r9 (fun a ha => (SO.out.blk a ha).1)); clear o9 g9' r9 d9)
            rw [hmsn, List.append_nil] at Z9
            subst hqs0
            go_roundw
            case rel => exact ⟨k + 1, n3, nx, ps, ms, A3, c3, A5, m5, c5, As2, q, cs2, by omega, rfl, by go_num, hnx, hps, hms, Lib.hid hF.out.next, HE, Q9.out, Z7.out, Z8.out, Z9.out, B9.out⟩
            case measure => simp [intOf]; omega
          have hcb : (r.code != 3) = true := by simp [hc]
          have HE := Lib.hid ((run_taken hF.out HT.out HE0.out HRR.out hc).2.symm.trans hE.out)
          have HF2 := Lib.hid (run_taken hF.out HT.out HE0.out HRR.out hc).1
          clear hE
          have hqs : q + qs ≤ 1048577 := by have := HF2.out.cnt; rw [List.length_append, hms.out, HLS.out] at this; omega
          have H1 := Q3.out.set_ 0 (.slice A7 n7 c7)
          have Q4 := Lib.hid (H1.set_ 1 (.slice A8 m8 c8))
          have R7 := Lib.hid (own_far (own_far S7.out Q3.out (by decide) 0 (.slice A7 n7 c7)) H1 (by decide) 1 (.slice A8 m8 c8))
          have R8 := Lib.hid (own_far (own_far S8.out Q3.out (by decide) 0 (.slice A7 n7 c7)) H1 (by decide) 1 (.slice A8 m8 c8))
          have RO := Lib.hid (own_far (own_far SO.out Q3.out (by decide) 0 (.slice A7 n7 c7)) H1 (by decide) 1 (.slice A8 m8 c8))
          have RS := Lib.hid (own_far (own_far SS.out Q3.out (by decide) 0 (.slice A7 n7 c7)) H1 (by decide) 1 (.slice A8 m8 c8))
          have B4 := Lib.hid ((B3.out.setCell (p := ⟨w1.heap.size, 0, none⟩) hb1 (.slice A7 n7 c7)).setCell (p := ⟨w1.heap.size, 1, none⟩) hb1 (.slice A8 m8 c8))
          clear H1
          have hB4 := B4.out.size
          go_wp2_with (at_builtin; refine wpList_app _ rfl _ _ _ rfl w.heap.size 64 j0 (.agg #[.int .i64 0, .int .i64 0, .bool false, .string ⟨#[]⟩]) 4 40 Try.underlying24 hj hy0 hy1 hy2 rfl (by decide) Ao q co (msgs ms) rfl RO.out _ As qs cs (msgs r.ms) rfl RS.out.sl (by rw [msgs_len, HLS.out]) (msgs_one _) (by unfold maxLen; omega) (by omega) hB4 ?_; intro As2 cs2 row w9 o9 g9' r9 d9; rw [← msgs_app] at o9; have Z9 := Lib.hid o9; have Q9 := Lib.hid (blk_held Q4.out RO.out (by decide) g9' r9); have Z7 := Lib.hid (own_held R7.out RO.out (by decide) g9' r9); have Z8 := Lib.hid (own_held R8.out RO.out (by decide) g9' r9); have B9 := Lib.hid (below_at B4.out hB4 g9' r9 (fun a ha => (RO.out.blk a ha).1)); clear o9 g9' r9 d9)
          go_roundw
          case rel => exact ⟨k + 1, n7, r.zs, r.ps, ms ++ r.ms, A7, c7, A8, m8, c8, As2, q + qs, cs2, by omega, rfl, by go_num, HL7, HL8, Lib.hid (by rw [List.length_append, hms.out, HLS.out]), HF2, HE, Q9.out, Z7.out, Z8.out, Z9.out, B9.out⟩
          case measure => simp [intOf]; omega
        exact AllReadyH.nil
      have HE := Lib.hid (by have h := hE.out; rw [runL_end (by rw [HN.out]; omega)] at h; exact h : ms = R)
      clear hE
      go_wp2
      go_ret
      exact ⟨Ao, q, co, rfl, by rw [← HE.out]; exact hms.out, by rw [← HE.out]; exact OO.out, B.out⟩
  have HR := Lib.hid (by have h := hR; unfold runM at h; rw [if_neg hsn] at h; exact h : [] = R)
  clear hR
  go_enter Try.func7, Try.ntmps7
  go_wp2_with fail
  refine (sasm_no sn (by omega) _).mono ?_
  rintro e w1 ⟨rfl, b1⟩
  have B1 := Lib.hid (((Below.refl w.heap.size w).alloc (Nat.le_refl _) (.cells #[] 64)).trans (b1.mono (by simp)))
  have OM := Lib.hid ((Own.made w w.heap.size 64 4 #[] 0 (Nat.le_refl _) (by unfold maxLen; omega) rfl).below b1 (Nat.le_refl _))
  clear b1
  go_wp2
  go_loopw [5, 8] (fun ov iv wr => ov = .slice (some ⟨w.heap.size, 0, none⟩) 0 0 ∧ iv = .int .i64 0 ∧ wr = w1.alloc (.cells #[.slice none 0 0, .slice none 0 0] 41)) (fun _ _ _ => 0)
  case atStart => exact ⟨rfl, rfl, rfl⟩
  case round =>
    obtain ⟨rfl, rfl, rfl⟩ := hrel
    go_wp2
    all_goals go_ret
    all_goals exact ⟨some ⟨w.heap.size, 0, none⟩, 0, 0, rfl, by rw [← HR.out]; rfl, by rw [← HR.out]; exact OM.out.alloc _, B1.out.alloc B1.out.size _⟩
end Go.Proofs.Ytkhaodbcnnlhaaa
