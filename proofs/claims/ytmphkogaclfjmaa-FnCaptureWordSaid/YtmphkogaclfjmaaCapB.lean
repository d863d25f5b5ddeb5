/-
  What CaptureBegin and CaptureGet return, in the program and in the reference. Condition: the text is not too long.
-/
import Derived.Test.YtmphkogaclfjmaaCapE
import Derived.Test.YtmphkogaclfjmaaCapB0
import Derived.Test.YtmphkogaclfjmaaNumR
import Derived.Deep.DeepCutAuto
namespace Go.Proofs.Ytmphkogaclfjmaa
open Go.ChangeShapes Go.WideShapes Go.ChangeAt Go.RowKit
set_option linter.unusedVariables false
set_option linter.unusedSimpArgs false

def BegP (l : List Rec) (v : Value) (w : World) (e : Ending) (w' : World) : Prop :=
  ∃ A c, e = .returned (.tuple #[.slice A l.length c, v]) ∧ Own w' w.heap.size 33 2 A l.length c (recs l) ∧ Below w.heap.size w w'
theorem tap_head {s : ByteArray} (h : 4 ≤ s.size) : bl (s.extract 0 4) = (bl s).take 4 := by rw [bl_extract]; rfl
theorem short_no {s : ByteArray} (h : s.size < 4) : ¬ (bl s).take 4 = tap := fun e => by
  have := congrArg List.length e
  rw [List.length_take, bl_len] at this
  simp [tap] at this
  omega
theorem tap_cmp {s : ByteArray} (h : 4 ≤ s.size) : ((s.extract 0 4).toList == [116, 97, 112, 49]) = decide ((bl s).take 4 = tap) := by
  rw [bl_toList, tap_head h]
  by_cases ht : (bl s).take 4 = tap
  · rw [ht, decide_eq_true rfl]
    rfl
  · rw [decide_eq_false ht, beq_eq_false_iff_ne]
    exact ht
theorem rec_ext {s : ByteArray} {x T W : Nat} (hT : T = lAt (bl s) x) (hW : W = wAt (bl s) (x + 4)) : recAt (bl s) x = ((T : Int), s.extract (x + 6) (x + 6 + W)) := by
  unfold recAt
  rw [← hT, ← hW]
  refine Prod.ext rfl (bl_inj ?_)
  rw [bl_mk, bl_extract, Nat.add_sub_cancel_left]
set_option maxHeartbeats 800000 in
set_option maxRecDepth 100000 in
theorem icap_begin {s : ByteArray} (hs : s.size ≤ 1100000) {l : List Rec} {a : Nat} (h : capBegin (bl s) = (l, a)) (w : World) : Calls Try.prog 25 #[.string s] w (BegP l (.int .i64 a) w) := by
  obtain ⟨i0, hi, hz0, hz1, hz2⟩ := info_parts info_rec
  have H := Lib.hid h
  clear h
  by_cases h4 : s.size < 4
  · have e := H.out
    rw [begin_no (short_no h4)] at e
    injection e with e1 e2
    subst e1 e2
    go_enter Try.func25, Try.ntmps25
    go_wp2
    go_ret2
    exact ⟨none, 0, rfl, Own.nil _ _ _ _, Below.refl _ _⟩
  · have hx : (0 : Int) ≤ 4 ∧ (4 : Int) ≤ (s.size : Int) := by omega
    have hcmp := tap_cmp (s := s) (by omega)
    by_cases ht : (bl s).take 4 = tap
    · have H0 := Lib.hid (begR_start ht)
      rw [decide_eq_true ht] at hcmp
      clear ht
      go_enter Try.func25, Try.ntmps25
      go_wp2
      clear hcmp
      go_loopw [4, 5, 6] (fun at_ ls lo wr => ∃ (x k : Nat) (L : Int) (l' : List Rec) (A : Option Addr) (c : Nat), at_ = .int .i64 x ∧ lo = .int .i64 L ∧ ls = .slice A k c ∧ Hid (l'.length = k) ∧ Hid (begR (bl s) l' x L) ∧ k ≤ 60 ∧ 4 ≤ x ∧ x ≤ s.size ∧ 0 ≤ L ∧ L ≤ 4294967295 ∧ Own wr w.heap.size 33 2 A k c (recs l') ∧ Below w.heap.size w wr) (fun at_ _ _ _ => s.size - (intOf at_).toNat)
      case atStart =>
        refine ⟨4, 0, 0, [], some ⟨w.heap.size, 0, none⟩, 0, rfl, rfl, rfl, Lib.hid rfl, Lib.hid H0.out, by omega, by omega, by omega, by omega, by omega, ?_, by go_grown⟩
        exact Own.made w w.heap.size 33 2 #[] 0 (Nat.le_refl _) (by unfold maxLen; omega) rfl
      case round =>
        obtain ⟨x, k, L, l', A, c, rfl, rfl, rfl, hl, hR, hk, hx4, hxs, hL0, hL1, ho, hb⟩ := hrel
        have O := Lib.hid ho
        have B := Lib.hid hb
        clear ho hb
        have hend : ¬ (k < 60 ∧ x + 6 ≤ s.size ∧ L ≤ lAt (bl s) x ∧ wAt (bl s) (x + 4) ≤ 120 ∧ x + 6 + wAt (bl s) (x + 4) ≤ s.size) → l' = l ∧ x = a := fun hn => by
          have e := begR_end hR.out (by rw [hl.out, bl_len]; exact hn) (by rw [hl.out]; exact hk) (by rw [bl_len]; exact hxs)
          rw [H.out] at e
          injection e with e1 e2
          exact ⟨e1.symm, e2.symm⟩
        by_cases hin : k < 60 ∧ x + 6 ≤ s.size
        · obtain ⟨hk60, hx6⟩ := hin
          have w1 := IntWalk.i64_in ((x : Int) + 4) (by omega)
          have w2 := IntWalk.i64_in ((x : Int) + 6) (by omega)
          obtain ⟨T, hT⟩ : ∃ T, T = lAt (bl s) x := ⟨_, rfl⟩
          obtain ⟨W, hW⟩ : ∃ W, W = wAt (bl s) (x + 4) := ⟨_, rfl⟩
          have hTl : T < 4294967296 := by rw [hT]; exact lAt_lt _ _
          have hWl : W < 65536 := by rw [hW]; exact wAt_lt _ _
          have CL := Lib.hid (fun w => (by rw [hT]; exact ilong_get s x (by omega) (by omega) w : Calls Try.prog 43 #[.string s, .int .i64 x] w (Quiet (.tuple #[.int .i64 T, .bool true]) w)))
          have CW := Lib.hid (fun w => (by rw [hW]; have := iword_get s (x + 4) (by omega) (by omega) w; simpa using this : Calls Try.prog 44 #[.string s, .int .i64 ((x : Int) + 4)] w (Quiet (.tuple #[.int .i64 W, .bool true]) w)))
          have HRE := Lib.hid (rec_ext hT hW)
          have HST := Lib.hid (fun h1 h2 h3 h4 h5 => begR_step hR.out (by rw [hl.out]; exact h1) (by rw [bl_len]; exact h2) h3 h4 (by rw [bl_len]; exact h5))
          rw [← hT, ← hW] at hend
          rw [← hT, ← hW] at HST
          have HE := Lib.hid hend
          clear hend hT hW hR
          go_wp2_with fail
          refine (CL.out _).mono ?_
          rintro e wa ⟨rfl, m1, rfl⟩
          go_wp2_with fail
          refine (CW.out _).mono ?_
          rintro e wb ⟨rfl, m2, rfl⟩
          have O2 := Lib.hid (O.out.drewN (m1 + m2))
          have B2 := Lib.hid (below_drewN B.out (m1 + m2))
          by_cases hc1 : (T : Int) < L
          · obtain ⟨rfl, rfl⟩ := HE.out (by omega)
            go_wp2
            go_ret2
            exact ⟨A, c, by rw [hl.out]; rfl, by rw [hl.out]; exact O2.out, B2.out⟩
          · by_cases hc2 : 120 < W
            · obtain ⟨rfl, rfl⟩ := HE.out (by omega)
              have hc2' : (120 : Int) < (W : Int) := by omega
              go_wp2
              go_ret2
              exact ⟨A, c, by rw [hl.out]; rfl, by rw [hl.out]; exact O2.out, B2.out⟩
            · by_cases hc3 : s.size < x + 6 + W
              · obtain ⟨rfl, rfl⟩ := HE.out (by omega)
                have hc3' : (s.size : Int) < (x : Int) + 6 + (W : Int) := by omega
                go_wp2
                go_ret2
                exact ⟨A, c, by rw [hl.out]; rfl, by rw [hl.out]; exact O2.out, B2.out⟩
              · have hc1' : ¬ (T : Int) < L := hc1
                have hc3' : ¬ (s.size : Int) < (x : Int) + 6 + (W : Int) := by omega
                have hb1 : (0 : Int) ≤ (x : Int) + 6 := by omega
                have hb2 : (x : Int) + 6 ≤ (x : Int) + 6 + (W : Int) := by omega
                have hb3 : (x : Int) + 6 + (W : Int) ≤ (s.size : Int) := by omega
                have hb4 : (0 : Int) ≤ (x : Int) + 6 + (W : Int) := by omega
                have w3 := IntWalk.i64_in ((x : Int) + 6 + (W : Int)) (by omega)
                have w4 := IntWalk.i64_in ((6 : Int) + (W : Int)) (by omega)
                have w5 := IntWalk.i64_in ((x : Int) + (6 + (W : Int))) (by omega)
                have HS2 := Lib.hid (HST.out hk60 hx6 (by omega) (by omega) (by omega))
                rw [HRE.out] at HS2
                clear HST HE HRE
                have hbw := B.out.size
                go_wp2_with (at_builtin; refine wpList_app _ rfl (.tmp 59) (.tmp 70) _ rfl w.heap.size 33 i0 (.agg #[.int .i64 0, .string ⟨#[]⟩]) 2 24 Try.underlying25 hi hz0 hz1 hz2 rfl (by decide) A k c (recs l') rfl (O2.out.alloc _) (wr.heap.size + 1) (some ⟨wr.heap.size, 0, none⟩) 1 1 (recs [((T : Int), s.extract (x + 6) (x + 6 + W))]) rfl (sl_new (w := wr.drewN (m1 + m2)) rfl) rfl (recs_one _) (by unfold maxLen; omega) (by omega) (by simp; omega) ?_; intro A3 c3 row w3 o3 g3 r3 d3; rw [← recs_app] at o3; have O3 := Lib.hid o3; have B3 := Lib.hid (below_at (B2.out.alloc hbw _) (by simp; omega) g3 r3 (fun a ha => (O.out.blk a ha).1)); clear o3 g3 r3 d3)
                go_roundw
                case rel => exact ⟨x + 6 + W, k + 1, T, l' ++ [((T : Int), s.extract (x + 6) (x + 6 + W))], A3, c3, by go_num, rfl, rfl, Lib.hid (by rw [List.length_append, hl.out]; rfl), HS2, by omega, by omega, by omega, by omega, by omega, O3.out, B3.out⟩
                case measure => simp [intOf]; omega
        · obtain ⟨rfl, rfl⟩ := hend (by omega)
          by_cases hk6 : k < 60
          · have : ¬ ((x : Int) + 6 ≤ (s.size : Int)) := by omega
            go_wp2
            go_ret2
            exact ⟨A, c, by rw [hl.out]; rfl, by rw [hl.out]; exact O.out, B.out⟩
          · go_wp2
            go_ret2
            exact ⟨A, c, by rw [hl.out]; rfl, by rw [hl.out]; exact O.out, B.out⟩
    · have e := H.out
      rw [begin_no ht] at e
      injection e with e1 e2
      subst e1 e2
      rw [decide_eq_false ht] at hcmp
      go_enter Try.func25, Try.ntmps25
      go_wp2
      go_ret2
      exact ⟨none, 0, rfl, Own.nil _ _ _ _, Below.refl _ _⟩
theorem quiet_below {P : Program} {f : Nat} {args : Array Value} {v : Value} {w : World} (h : Calls P f args w (Quiet v w)) : Calls P f args w fun e w' => e = .returned v ∧ Below w.heap.size w w' :=
  h.mono fun _ _ ⟨h1, m, h2⟩ => ⟨h1, by rw [h2]; exact below_drewN (Below.refl _ _) m⟩
def BoxCut (T : Int) (text : ByteArray) (base : Nat) (A : Option Addr) (k c : Nat) (l' : List Rec) (lo : Nat) (w : World) (s : Value) (wx : World) : Prop :=
  ∃ g, s = .pointer (some ⟨g, 0, none⟩) ∧ lo ≤ g ∧ Blk wx g #[.int .i64 T, .string text] 33 ∧ Own wx base 33 2 A k c (recs l') ∧ Below base w wx
set_option maxHeartbeats 800000 in
set_option maxRecDepth 100000 in
theorem scap_begin {s : ByteArray} (hs : s.size ≤ 1100000) {l : List Rec} {a : Nat} (h : capBegin (bl s) = (l, a)) (w : World) : Calls Try.prog 24 #[.string s] w (BegP l (.int .i64 a) w) := by
  obtain ⟨i0, hi, hz0, hz1, hz2⟩ := info_parts info_rec
  have H := Lib.hid h
  clear h
  by_cases h4 : s.size < 4
  · have e := H.out
    rw [begin_no (short_no h4)] at e
    injection e with e1 e2
    subst e1 e2
    go_enter Try.func24, Try.ntmps24
    go_wp2
    go_ret2
    exact ⟨_, 0, rfl, Own.made w w.heap.size 33 2 #[] 0 (Nat.le_refl _) (by unfold maxLen; omega) rfl, by go_grown⟩
  · have hx : (0 : Int) ≤ 4 ∧ (4 : Int) ≤ (s.size : Int) := by omega
    have hcmp := tap_cmp (s := s) (by omega)
    by_cases ht : (bl s).take 4 = tap
    · have H0 := Lib.hid (begR_start ht)
      rw [decide_eq_true ht] at hcmp
      clear ht
      go_enter Try.func24, Try.ntmps24
      go_wp2
      clear hcmp
      go_loopw [4, 5, 6] (fun ls at_ lo wr => ∃ (x k : Nat) (L : Int) (l' : List Rec) (A : Option Addr) (c : Nat), at_ = .int .i64 x ∧ lo = .int .i64 L ∧ ls = .slice A k c ∧ Hid (l'.length = k) ∧ Hid (begR (bl s) l' x L) ∧ k ≤ 60 ∧ 4 ≤ x ∧ x ≤ s.size ∧ 0 ≤ L ∧ L ≤ 4294967295 ∧ Own wr w.heap.size 33 2 A k c (recs l') ∧ Below w.heap.size w wr) (fun _ at_ _ _ => s.size - (intOf at_).toNat)
      case atStart =>
        refine ⟨4, 0, 0, [], some ⟨w.heap.size, 0, none⟩, 0, rfl, rfl, rfl, Lib.hid rfl, Lib.hid H0.out, by omega, by omega, by omega, by omega, by omega, ?_, by go_grown⟩
        exact Own.made w w.heap.size 33 2 #[] 0 (Nat.le_refl _) (by unfold maxLen; omega) rfl
      case round =>
        obtain ⟨x, k, L, l', A, c, rfl, rfl, rfl, hl, hR, hk, hx4, hxs, hL0, hL1, ho, hb⟩ := hrel
        have O := Lib.hid ho
        have B := Lib.hid hb
        clear ho hb
        have w2 := IntWalk.i64_in ((x : Int) + 6) (by omega)
        have hend : ¬ (k < 60 ∧ x + 6 ≤ s.size ∧ L ≤ lAt (bl s) x ∧ wAt (bl s) (x + 4) ≤ 120 ∧ x + 6 + wAt (bl s) (x + 4) ≤ s.size) → l' = l ∧ x = a := fun hn => by
          have e := begR_end hR.out (by rw [hl.out, bl_len]; exact hn) (by rw [hl.out]; exact hk) (by rw [bl_len]; exact hxs)
          rw [H.out] at e
          injection e with e1 e2
          exact ⟨e1.symm, e2.symm⟩
        by_cases hin : k < 60 ∧ x + 6 ≤ s.size
        · obtain ⟨hk60, hx6⟩ := hin
          have w1 := IntWalk.i64_in ((x : Int) + 4) (by omega)
          have w7 := IntWalk.i64_in ((x : Int) + 2) (by omega)
          obtain ⟨U, hU⟩ : ∃ U, U = wAt (bl s) x := ⟨_, rfl⟩
          obtain ⟨V, hV⟩ : ∃ V, V = wAt (bl s) (x + 2) := ⟨_, rfl⟩
          obtain ⟨T, hT⟩ : ∃ T, T = lAt (bl s) x := ⟨_, rfl⟩
          obtain ⟨W, hW⟩ : ∃ W, W = wAt (bl s) (x + 4) := ⟨_, rfl⟩
          have hUV : (T : Int) = 65536 * (U : Int) + (V : Int) := by rw [hT, hU, hV]; unfold lAt; omega
          have hUl : U < 65536 := by rw [hU]; exact wAt_lt _ _
          have hVl : V < 65536 := by rw [hV]; exact wAt_lt _ _
          have hTl : T < 4294967296 := by rw [hT]; exact lAt_lt _ _
          have hWl : W < 65536 := by rw [hW]; exact wAt_lt _ _
          have CU := Lib.hid (fun w => (by rw [hU]; exact l1at s x (by omega) (by omega) w : Calls Try.prog 42 #[.string s, .int .i64 x] w (Quiet (.int .i64 U) w)))
          have CV := Lib.hid (fun w => (by rw [hV]; have := l1at s (x + 2) (by omega) (by omega) w; simpa using this : Calls Try.prog 42 #[.string s, .int .i64 ((x : Int) + 2)] w (Quiet (.int .i64 V) w)))
          have CW := Lib.hid (fun w => (by rw [hW]; have := l1at s (x + 4) (by omega) (by omega) w; simpa using this : Calls Try.prog 42 #[.string s, .int .i64 ((x : Int) + 4)] w (Quiet (.int .i64 W) w)))
          have HRE := Lib.hid (rec_ext hT hW)
          have HST := Lib.hid (fun h1 h2 h3 h4 h5 => begR_step hR.out (by rw [hl.out]; exact h1) (by rw [bl_len]; exact h2) h3 h4 (by rw [bl_len]; exact h5))
          rw [← hT, ← hW] at hend
          rw [← hT, ← hW] at HST
          have HE := Lib.hid hend
          clear hend hT hW hR hU hV
          have w3 := IntWalk.i64_in ((x : Int) + 6 + (W : Int)) (by omega)
          go_wp2_with fail
          refine (CW.out _).mono ?_
          rintro e wa ⟨rfl, m1, rfl⟩
          by_cases hc3 : s.size < x + 6 + W
          · obtain ⟨rfl, rfl⟩ := HE.out (by omega)
            have hc3' : (s.size : Int) < (x : Int) + 6 + (W : Int) := by omega
            go_wp2
            go_ret2
            exact ⟨A, c, by rw [hl.out]; rfl, by rw [hl.out]; exact O.out.drewN m1, below_drewN B.out m1⟩
          · have hc3' : ¬ (s.size : Int) < (x : Int) + 6 + (W : Int) := by omega
            have hb1 : (0 : Int) ≤ (x : Int) + 6 := by omega
            have hb2 : (x : Int) + 6 ≤ (x : Int) + 6 + (W : Int) := by omega
            have hb3 : (x : Int) + 6 + (W : Int) ≤ (s.size : Int) := by omega
            have hb4 : (0 : Int) ≤ (x : Int) + 6 + (W : Int) := by omega
            have w8 := IntWalk.i64_in (65536 * (U : Int)) (by omega)
            have w9 := IntWalk.i64_in (65536 * (U : Int) + (V : Int)) (by omega)
            have HUV := Lib.hid hUV
            clear hUV
            obtain ⟨wa, hwa⟩ : ∃ wa, wa = wr.drewN m1 := ⟨_, rfl⟩
            rw [← hwa]
            have Oa := Lib.hid (show Own wa w.heap.size 33 2 A k c (recs l') from by rw [hwa]; exact O.out.drewN m1)
            have Ba := Lib.hid (show Below w.heap.size w wa from by rw [hwa]; exact below_drewN B.out m1)
            have CU2 := Lib.hid (fun w => quiet_below (CU.out w))
            have CV2 := Lib.hid (fun w => quiet_below (CV.out w))
            have hlo := Ba.out.size
            have HXE := Lib.hid (show s.extract ((x : Int) + 6).toNat ((x : Int) + 6 + (W : Int)).toNat = s.extract (x + 6) (x + 6 + W) from by congr 1)
            have hXs : (s.extract (x + 6) (x + 6 + W)).size = W := by rw [ByteArray.size_extract]; omega
            clear hwa CW CU CV
            go_upto_region 10 with (fail)
            go_cut [8] (fun s8 wx => BoxCut (T : Int) (s.extract (x + 6) (x + 6 + W)) w.heap.size A k c l' wa.heap.size w s8 wx)
            case first =>
              go_region_held3 (fun w' => True) (exact trivial)
                (first
                  | (go_at_call 42; (with_reducible refine (CU2.out (wa.drew)).mono ?_); rintro e wc ⟨rfl, bc⟩; have lc : wa.heap.size ≤ wc.heap.size := (by have := bc.size; (try simp only [World.size_alloc, World.size_drew] at this); omega); have Oc := Lib.hid (Oa.out.drew.below bc (Nat.le_refl _)); have Bc := Lib.hid (bstep Ba.out.drew bc Ba.out.size); clear bc)
                  | (go_at_call 42; (with_reducible refine (CU2.out ((wa.alloc _).drew)).mono ?_); rintro e wc ⟨rfl, bc⟩; have lc : wa.heap.size ≤ wc.heap.size := (by have := bc.size; (try simp only [World.size_alloc, World.size_drew] at this); omega); have Qc := Lib.hid ((Blk.new wa #[.int .i64 0, .string ⟨#[]⟩] 33).drew.below bc (by simp)); have f0 := Qc.out.get 0 rfl; have f1 := Qc.out.get 1 rfl; have ff0 := Qc.out.frozen 0; have ff1 := Qc.out.frozen 1; have Oc := Lib.hid ((Oa.out.alloc _).drew.below bc (Nat.le_refl _)); have Bc := Lib.hid (bstep (Ba.out.alloc Ba.out.size _).drew bc (by have := Ba.out.size; simp; omega)); clear bc)
                  | (go_at_call 42; (with_reducible refine (CV2.out (wa.drew)).mono ?_); rintro e wc ⟨rfl, bc⟩; have lc : wa.heap.size ≤ wc.heap.size := (by have := bc.size; (try simp only [World.size_alloc, World.size_drew] at this); omega); have Oc := Lib.hid (Oa.out.drew.below bc (Nat.le_refl _)); have Bc := Lib.hid (bstep Ba.out.drew bc Ba.out.size); clear bc)
                  | (go_at_call 42; (with_reducible refine (CV2.out ((wa.alloc _).drew)).mono ?_); rintro e wc ⟨rfl, bc⟩; have lc : wa.heap.size ≤ wc.heap.size := (by have := bc.size; (try simp only [World.size_alloc, World.size_drew] at this); omega); have Qc := Lib.hid ((Blk.new wa #[.int .i64 0, .string ⟨#[]⟩] 33).drew.below bc (by simp)); have f0 := Qc.out.get 0 rfl; have f1 := Qc.out.get 1 rfl; have ff0 := Qc.out.frozen 0; have ff1 := Qc.out.frozen 1; have Oc := Lib.hid ((Oa.out.alloc _).drew.below bc (Nat.le_refl _)); have Bc := Lib.hid (bstep (Ba.out.alloc Ba.out.size _).drew bc (by have := Ba.out.size; simp; omega)); clear bc)
                  | (go_at_call 42; (with_reducible refine (CU2.out wc).mono ?_); rintro e wd ⟨rfl, bd⟩; have ld : wc.heap.size ≤ wd.heap.size := (by have := bd.size; (try simp only [World.size_alloc, World.size_drew] at this); omega); (first | (have Qd := Lib.hid (Qc.out.below bd Qc.out.lt); clear f0 f1 ff0 ff1; have f0 := Qd.out.get 0 rfl; have f1 := Qd.out.get 1 rfl; have ff0 := Qd.out.frozen 0; have ff1 := Qd.out.frozen 1) | skip); have Od := Lib.hid (Oc.out.below bd (Nat.le_refl _)); have Bd := Lib.hid (bstep Bc.out bd Bc.out.size); clear bd)
                  | (go_at_call 42; (with_reducible refine (CU2.out (wc.alloc _)).mono ?_); rintro e wd ⟨rfl, bd⟩; have ld : wc.heap.size ≤ wd.heap.size := (by have := bd.size; (try simp only [World.size_alloc, World.size_drew] at this); omega); have Qd := Lib.hid ((Blk.new wc #[.int .i64 0, .string ⟨#[]⟩] 33).below bd (by simp)); have f0 := Qd.out.get 0 rfl; have f1 := Qd.out.get 1 rfl; have ff0 := Qd.out.frozen 0; have ff1 := Qd.out.frozen 1; have Od := Lib.hid ((Oc.out.alloc _).below bd (Nat.le_refl _)); have Bd := Lib.hid (bstep (Bc.out.alloc Bc.out.size _) bd (by have := Bc.out.size; simp; omega)); clear bd)
                  | (go_at_call 42; (with_reducible refine (CV2.out wc).mono ?_); rintro e wd ⟨rfl, bd⟩; have ld : wc.heap.size ≤ wd.heap.size := (by have := bd.size; (try simp only [World.size_alloc, World.size_drew] at this); omega); (first | (have Qd := Lib.hid (Qc.out.below bd Qc.out.lt); clear f0 f1 ff0 ff1; have f0 := Qd.out.get 0 rfl; have f1 := Qd.out.get 1 rfl; have ff0 := Qd.out.frozen 0; have ff1 := Qd.out.frozen 1) | skip); have Od := Lib.hid (Oc.out.below bd (Nat.le_refl _)); have Bd := Lib.hid (bstep Bc.out bd Bc.out.size); clear bd)
                  | (go_at_call 42; (with_reducible refine (CV2.out (wc.alloc _)).mono ?_); rintro e wd ⟨rfl, bd⟩; have ld : wc.heap.size ≤ wd.heap.size := (by have := bd.size; (try simp only [World.size_alloc, World.size_drew] at this); omega); have Qd := Lib.hid ((Blk.new wc #[.int .i64 0, .string ⟨#[]⟩] 33).below bd (by simp)); have f0 := Qd.out.get 0 rfl; have f1 := Qd.out.get 1 rfl; have ff0 := Qd.out.frozen 0; have ff1 := Qd.out.frozen 1; have Od := Lib.hid ((Oc.out.alloc _).below bd (Nat.le_refl _)); have Bd := Lib.hid (bstep (Bc.out.alloc Bc.out.size _) bd (by have := Bc.out.size; simp; omega)); clear bd))
              all_goals
                go_wp2_with fail
                go_meet
              all_goals rw [HXE.out, ← HUV.out]
              all_goals
                first
                  | exact ⟨_, rfl, by omega, Blk.new wd _ _, Od.out.alloc _, Bd.out.alloc Bd.out.size _⟩
                  | (refine ⟨wc.heap.size, rfl, by omega, ?_, (Od.out.set_ne (fun a ha => by have := (Oa.out.blk a ha).2.1; show a.block ≠ wc.heap.size; omega) _).set_ne (fun a ha => by have := (Oa.out.blk a ha).2.1; show a.block ≠ wc.heap.size; omega) _, (Bd.out.setCell (by show w.heap.size ≤ wc.heap.size; omega) _).setCell (by show w.heap.size ≤ wc.heap.size; omega) _⟩; have h := (Qd.out.set_ 0 (.int .i64 (T : Int))).set_ 1 (.string (s.extract (x + 6) (x + 6 + W))); simpa using h)
                  | (refine ⟨wa.heap.size, rfl, by omega, ?_, (Od.out.set_ne (fun a ha => by have := (Oa.out.blk a ha).2.1; show a.block ≠ wa.heap.size; omega) _).set_ne (fun a ha => by have := (Oa.out.blk a ha).2.1; show a.block ≠ wa.heap.size; omega) _, (Bd.out.setCell (by show w.heap.size ≤ wa.heap.size; omega) _).setCell (by show w.heap.size ≤ wa.heap.size; omega) _⟩; have h := (Qd.out.set_ 0 (.int .i64 (T : Int))).set_ 1 (.string (s.extract (x + 6) (x + 6 + W))); simpa using h)
            case rest =>
              obtain ⟨g, rfl, hga, q, o, b⟩ := hcut
              clear w8 w9 CU2 CV2
              generalize s.extract (x + 6) (x + 6 + W) = X at hXs q HRE
              have x0 : wc.cell? ⟨g, 0, none⟩ = some (.int .i64 (T : Int)) := q.get 0 rfl
              have x1 : wc.cell? ⟨g, 1, none⟩ = some (.string X) := q.get 1 rfl
              have hgl := q.lt
              have Qg := Lib.hid q
              have Og := Lib.hid o
              have Bg := Lib.hid b
              have HRL := Lib.hid (l14rec L (T : Int) X (by omega))
              clear q o b
              go_wp2_with fail
              refine (HRL.out _).mono ?_
              by_cases hrec : recB L ((T : Int), X) = true
              · obtain ⟨r1, r2, r3⟩ := recB_true hrec
                change L ≤ (T : Int) at r1
                change X.size ≤ 120 at r3
                rw [hrec]
                rintro e w4 ⟨rfl, b4⟩
                have Q4 := Lib.hid (Qg.out.below b4 Qg.out.lt)
                have O4 := Lib.hid (Og.out.below b4 (Nat.le_refl _))
                have B4 := Lib.hid (bstep Bg.out b4 Bg.out.size)
                have le4 := b4.size
                have hbw := B4.out.size
                have y0 : w4.cell? ⟨g, 0, none⟩ = some (.int .i64 (T : Int)) := Q4.out.get 0 rfl
                have y1 : w4.cell? ⟨g, 1, none⟩ = some (.string X) := Q4.out.get 1 rfl
                have hgl4 := Q4.out.lt
                have HS2 := Lib.hid (HST.out hk60 hx6 r1 (by omega) (by omega))
                rw [HRE.out] at HS2
                clear HST HE HRE HRL b4 x0 x1
                go_wp2_with (at_builtin; refine wpList_app _ rfl (.tmp 63) (.tmp 65) _ rfl w.heap.size 33 i0 (.agg #[.int .i64 0, .string ⟨#[]⟩]) 2 24 Try.underlying25 hi hz0 hz1 hz2 rfl (by decide) A k c (recs l') rfl (O4.out.alloc _) (w4.heap.size + 1) (some ⟨w4.heap.size, 0, none⟩) 1 1 (recs [((T : Int), X)]) rfl (sl_new rfl) rfl (recs_one _) (by unfold maxLen; omega) (by omega) (by simp; omega) ?_; intro A3 c3 row w5 o5 g5 r5 d5; rw [← recs_app] at o5; have O5 := Lib.hid o5; have Q5 := Lib.hid ((Q4.out.alloc _).grown g5 (fun e => by obtain ⟨a, ha, hab⟩ := r5 _ e.symm; have := (Oa.out.blk a ha).2.1; omega)); have z0 : w5.cell? ⟨g, 0, none⟩ = some (.int .i64 (T : Int)) := Q5.out.get 0 rfl; have B5 := Lib.hid (below_at (B4.out.alloc hbw _) (by simp; omega) g5 r5 (fun a ha => (Oa.out.blk a ha).1)); clear o5 g5 r5 d5 y0 y1)
                go_roundw
                case rel => exact ⟨x + 6 + W, k + 1, T, l' ++ [((T : Int), X)], A3, c3, by go_num, rfl, rfl, Lib.hid (by rw [List.length_append, hl.out]; rfl), HS2, by omega, by omega, by omega, by omega, by omega, O5.out, B5.out⟩
                case measure => simp [intOf]; omega
              · have hrec : recB L ((T : Int), X) = false := by simpa using hrec
                have hno := recB_false hrec
                change ¬ (L ≤ (T : Int) ∧ (T : Int) ≤ 4294967295 ∧ X.size ≤ 120) at hno
                obtain ⟨rfl, rfl⟩ := HE.out (by omega)
                rw [hrec]
                rintro e w4 ⟨rfl, b4⟩
                have O4 := Lib.hid (Og.out.below b4 (Nat.le_refl _))
                have B4 := Lib.hid (bstep Bg.out b4 Bg.out.size)
                clear b4 x0 x1
                go_wp2
                go_ret2
                exact ⟨A, c, by rw [hl.out]; rfl, by rw [hl.out]; exact O4.out, B4.out⟩
        · obtain ⟨rfl, rfl⟩ := hend (by omega)
          by_cases hx6 : x + 6 ≤ s.size
          · have : (x : Int) + 6 ≤ (s.size : Int) := by omega
            go_wp2
            go_ret2
            exact ⟨A, c, by rw [hl.out]; rfl, by rw [hl.out]; exact O.out, B.out⟩
          · have : ¬ ((x : Int) + 6 ≤ (s.size : Int)) := by omega
            go_wp2
            go_ret2
            exact ⟨A, c, by rw [hl.out]; rfl, by rw [hl.out]; exact O.out, B.out⟩
    · have e := H.out
      rw [begin_no ht] at e
      injection e with e1 e2
      subst e1 e2
      rw [decide_eq_false ht] at hcmp
      go_enter Try.func24, Try.ntmps24
      go_wp2
      go_ret2
      exact ⟨_, 0, rfl, Own.made w w.heap.size 33 2 #[] 0 (Nat.le_refl _) (by unfold maxLen; omega) rfl, by go_grown⟩
end Go.Proofs.Ytmphkogaclfjmaa
