/-
  What the drawing functions of captures return. Condition: the reader can be read; the code is a slice of bytes.
-/
import Derived.Test.YtmphkogaclfjmaaDrawC
namespace Go.Proofs.Ytmphkogaclfjmaa
open Go.ChangeShapes Go.WideShapes Go.ChangeAt Go.RowKit
set_option linter.unusedVariables false

def recOk (r : Rec) : Prop := -1 ≤ r.1 ∧ r.1 ≤ 4294967296 ∧ r.2.size ≤ 121
def RecsOk (l : List Rec) : Prop := ∀ r ∈ l, recOk r
theorem RecsOk.txts {l : List Rec} (h : RecsOk l) : Txts l := fun r hr => Nat.le_trans (h r hr).2.2 (by omega)
theorem RecsOk.snoc {l : List Rec} {r : Rec} (h : RecsOk l) (hr : recOk r) : RecsOk (l ++ [r]) := fun x hx => by
  rcases List.mem_append.1 hx with hx | hx
  · exact h x hx
  · simp at hx; subst hx; exact hr
theorem mem_set_cases {α : Type} : ∀ {l : List α} {j : Nat} {r x : α}, x ∈ l.set j r → x ∈ l ∨ x = r
  | [], _, _, _, h => by simp at h
  | a :: l, 0, r, x, h => by
    simp only [List.set_cons_zero, List.mem_cons] at h ⊢
    rcases h with h | h
    · exact .inr h
    · exact .inl (.inr h)
  | a :: l, j + 1, r, x, h => by
    simp only [List.set_cons_succ, List.mem_cons] at h ⊢
    rcases h with h | h
    · exact .inl (.inl h)
    · rcases mem_set_cases h with h | h
      · exact .inl (.inr h)
      · exact .inr h
theorem RecsOk.set {l : List Rec} {r : Rec} (h : RecsOk l) (j : Nat) (hr : recOk r) : RecsOk (l.set j r) := fun x hx => by
  rcases mem_set_cases hx with hx | rfl
  · exact h x hx
  · exact hr
def RecsD (g L : Nat) (w : World) (e : Ending) (w' : World) : Prop :=
  ∃ (A : Option Addr) (n c : Nat) (l : List Rec), e = .returned (.slice A n c) ∧ l.length = n ∧ n ≤ 62 ∧ RecsOk l ∧ Own w' w.heap.size 33 2 A n c (recs l) ∧ RdB w' g L ∧ w.grownBy w' (some g)
def RecsCut (g L : Nat) (w : World) (s : Value) (wx : World) : Prop :=
  ∃ N : Nat, s = .int .i64 N ∧ N ≤ 62 ∧ Own wx w.heap.size 33 2 (some ⟨w.heap.size, 0, none⟩) 0 0 [] ∧ RdB wx g L ∧ w.grownBy wx (some g)
set_option maxHeartbeats 3200000 in
theorem recs_drawn (g : Nat) (w : World) (L : Nat) (hr : RdB w g L) (hL : L ≤ 700000) : Calls Try.prog 40 #[.pointer (some ⟨g, 0, none⟩)] w (RecsD g (L + 2000) w) := by
  obtain ⟨i0, hi, hz0, hz1, hz2⟩ := info_parts info_rec
  have hgl := hr.lt
  go_enter Try.func40, Try.ntmps40
  go_wp2_with fail
  refine (pick_pos _ _ _ L (hr.alloc _) (by omega) (by omega)).mono ?_
  rintro e w1 ⟨k, rfl, k0, k1, r1, g1, s1⟩
  obtain ⟨k, rfl⟩ := Int.eq_ofNat_of_zero_le k0
  have O1 := Lib.hid ((Own.made w w.heap.size 33 2 #[] 0 (Nat.le_refl _) (by unfold maxLen; omega) rfl).grown g1 (fun a ha e => by injection ha with ha; subst ha; injection e with e; simp at e; omega))
  have G1 := Lib.hid (gb_trans (World.grownBy_alloc w (.cells #[] 33) (some g)) g1 (fun k hk => .inl hk))
  clear g1 s1 k0
  go_wp2_with fail
  refine (pick_pos _ _ _ _ r1 (by omega) (by omega)).mono ?_
  rintro e w2 ⟨j, rfl, j0, j1, r2, g2, s2⟩
  have O2 := Lib.hid (O1.out.grown g2 (fun a ha => fun e => by injection e with e; have := (O1.out.blk a ha).1; omega))
  have G2 := Lib.hid (gb_trans G1.out g2 (fun k hk => .inl hk))
  clear g2 s2 r1
  go_upto_if 12 with (fail)
  go_cut [4] (fun s4 wx => RecsCut g (L + 3) w s4 wx)
  case first =>
    by_cases hj : j = 0
    · subst hj
      go_wp2_with fail
      refine (pick_pos _ _ _ _ r2 (by omega) (by omega)).mono ?_
      rintro e w3 ⟨v, rfl, v0, v1, r3, g3, s3⟩
      obtain ⟨v, rfl⟩ := Int.eq_ofNat_of_zero_le v0
      have O3 := Lib.hid (O2.out.grown g3 (fun a ha => fun e => by injection e with e; have := (O2.out.blk a ha).1; omega))
      have G3 := Lib.hid (gb_trans G2.out g3 (fun k hk => .inl hk))
      clear g3 s3
      go_wp2
      go_meet
      exact ⟨58 + v, by go_num, by omega, O3.out, r3, G3.out⟩
    · have e0 : (j == 0) = false := by simpa using hj
      clear hj
      go_wp2
      go_meet
      exact ⟨k, rfl, by omega, O2.out, r2.mono (by omega), G2.out⟩
  case rest =>
    obtain ⟨N, rfl, hN, o3, r3, g3⟩ := hcut
    have O3 := Lib.hid o3
    have G3 := Lib.hid g3
    clear o3 g3 O2 G2 r2
    go_wp2_with fail
    refine (pick_pos _ _ _ _ r3 (by omega) (by omega)).mono ?_
    rintro e w4 ⟨t0, rfl, t00, t01, r4, g4, s4⟩
    have O4 := Lib.hid (O3.out.grown g4 (fun a ha => fun e => by injection e with e; have := (O3.out.blk a ha).1; omega))
    have G4 := Lib.hid (gb_trans G3.out g4 (fun k hk => .inl hk))
    clear g4 s4 r3
    go_wp2
    go_loopw [3, 5, 6] (fun o t i wr => ∃ (j : Nat) (l : List Rec) (gg c : Nat) (T : Int), j ≤ N ∧ 0 ≤ T ∧ T ≤ 4 + 2 * j ∧ i = .int .i64 j ∧ t = .int .i64 T ∧ o = .slice (some ⟨gg, 0, none⟩) j c ∧ Hid (l.length = j) ∧ Hid (RecsOk l) ∧ Own wr w.heap.size 33 2 (some ⟨gg, 0, none⟩) j c (recs l) ∧ RdB wr g (L + 4 + 14 * j) ∧ w.grownBy wr (some g)) (fun _ _ i _ => N - (intOf i).toNat)
    case atStart => exact ⟨0, [], w.heap.size, 0, t0, by omega, by omega, by omega, rfl, rfl, rfl, Lib.hid rfl, Lib.hid (fun z hz => by simp at hz), O4.out, r4.mono (by omega), G4.out⟩
    case round =>
      obtain ⟨j, l, gg, c, T, hj, hT0, hT1, rfl, rfl, rfl, hll, hlo, ho, hrd, hgr⟩ := hrel
      have O := Lib.hid ho
      have GR := Lib.hid hgr
      clear ho hgr
      by_cases hlt : j < N
      · go_wp2_with fail
        refine (bytes_any _ _ _ 6 (by omega) hrd (by omega)).mono ?_
        rintro e w5 ⟨s, rfl, hs, r5, g5⟩
        have O5 := Lib.hid (O.out.grown g5 (fun a ha => fun e => by injection e with e; have := (O.out.blk a ha).1; omega))
        have G5 := Lib.hid (gb_trans GR.out g5 (fun k hk => .inl hk))
        have hgg := (O5.out.blk _ rfl).2.1
        have hw5 := G5.out.size
        clear g5
        go_wp2_with (at_builtin; refine wpList_app _ rfl _ _ _ rfl w.heap.size 33 i0 (.agg #[.int .i64 0, .string ⟨#[]⟩]) 2 24 Try.underlying25 hi hz0 hz1 hz2 rfl (by decide) (some ⟨gg, 0, none⟩) j c (recs l) rfl (O5.out.alloc _) (w5.heap.size + 1) (some ⟨w5.heap.size, 0, none⟩) 1 1 (recs [(T, s)]) rfl (sl_new rfl) rfl (recs_one _) (by unfold maxLen; omega) (by omega) (by simp; omega) ?_; intro A6 c6 row w6 o6 g6 r6 d6; have O6 := Lib.hid o6; have R6 := Lib.hid ((r5.alloc _).grown g6 (fun k hk => by obtain ⟨a, ha, hab⟩ := r6 k hk; have := (O5.out.blk a ha).1; omega)); have G6 := Lib.hid (gb_trans (gb_alloc G5.out _) g6 (fun k hk => .inr (by obtain ⟨a, ha, hab⟩ := r6 k hk; have := (O5.out.blk a ha).1; omega))); clear o6 g6 r6 d6)
        obtain ⟨g6, rfl⟩ := O6.out.some_of (by omega)
        refine (pick_pos _ _ _ _ R6.out (by omega) (by omega)).mono ?_
        rintro e w7 ⟨d, rfl, d0, d1, r7, g7, s7⟩
        have O7 := Lib.hid (O6.out.grown g7 (fun a ha => fun e => by injection e with e; have := (O6.out.blk a ha).1; omega))
        have G7 := Lib.hid (gb_trans G6.out g7 (fun k hk => .inl hk))
        clear g7 s7
        go_wp2
        go_roundw
        case rel =>
          refine ⟨j + 1, l ++ [(T, s)], g6, c6, T + d, by omega, by omega, by omega, by go_num, rfl, rfl, Lib.hid (by rw [List.length_append, hll.out]; rfl), Lib.hid (hlo.out.snoc ⟨by show (-1 : Int) ≤ T; omega, by show T ≤ 4294967296; omega, by show s.size ≤ 121; omega⟩), ?_, r7.mono (by omega), G7.out⟩
          rw [recs_app]
          exact O7.out
        case measure => simp [intOf]; omega
      · have hjN : j = N := by omega
        have hjl : j ≤ 62 := by omega
        clear hjN
        by_cases hz : j = 0
        · subst hz
          go_wp2
          go_ret
          exact ⟨_, 0, c, l, rfl, hll.out, by omega, hlo.out, O.out, hrd.mono (by omega), GR.out⟩
        · have hz' : 0 < j := by omega
          go_wp2_with fail
          refine (pick_pos _ _ _ _ hrd (by omega) (by omega)).mono ?_
          rintro e w5 ⟨v, rfl, v0, v1, r5, g5, s5⟩
          have O5 := Lib.hid (O.out.grown g5 (fun a ha => fun e => by injection e with e; have := (O.out.blk a ha).1; omega))
          have G5 := Lib.hid (gb_trans GR.out g5 (fun k hk => .inl hk))
          clear g5 s5
          by_cases hv0 : v = 0
          · subst hv0
            go_wp2_with fail
            refine (pick_pos _ _ _ _ r5 (by omega) (by omega)).mono ?_
            rintro e w6 ⟨q, rfl, q0, q1, r6, g6, s6⟩
            obtain ⟨q, rfl⟩ := Int.eq_ofNat_of_zero_le q0
            have O6 := Lib.hid (O5.out.grown g6 (fun a ha => fun e => by injection e with e; have := (O5.out.blk a ha).1; omega))
            have G6 := Lib.hid (gb_trans G5.out g6 (fun k hk => .inl hk))
            clear g6 s6
            go_wp2_with fail
            refine (long_any _ _ _ r6 (by omega)).mono ?_
            rintro e w7 ⟨t, rfl, ht0, ht1, r7, g7⟩
            have O7 := Lib.hid (O6.out.grown g7 (fun a ha => fun e => by injection e with e; have := (O6.out.blk a ha).1; omega))
            have G7 := Lib.hid (gb_trans G6.out g7 (fun k hk => .inl hk))
            have hqj : q < j := by omega
            obtain ⟨y, hy⟩ := fget_of_lt (xs := l) (k := q) (by rw [hll.out]; exact hqj)
            have f1 := O7.out.fcell (q * 2) (flat_at recC_len hy (j := 0) rfl)
            have f3 := O7.out.ffroz (q * 2)
            have f2 := O7.out.fcell (q * 2 + 1) (flat_at recC_len hy (j := 1) rfl)
            have HY := Lib.hid hy
            have hgo := (O7.out.blk _ rfl).1
            have FS := Lib.hid (flat_setMany recC_len l q (t, y.2) (by rw [hll.out]; exact hqj))
            have Q2 := Lib.hid (flat_at recC_len hy (j := 1) rfl)
            clear g7 hy
            go_wp2
            go_ret
            refine ⟨_, j, c, l.set q (t, y.2), rfl, by rw [List.length_set, hll.out], hjl, hlo.out.set q ⟨by show (-1 : Int) ≤ t; omega, by show t ≤ 4294967296; omega, (hlo.out y (List.mem_of_getElem? HY.out)).2.2⟩, ?_, (r7.setCell (by show g < gg; omega) _).mono (by omega), gb_setCell G7.out (.inr (by show w.heap.size ≤ gg; omega)) _⟩
            have h := O7.out.fput (q * 2) (.int .i64 t)
            have e2 : (recs l).set (q * 2) (.int .i64 t) = recs (l.set q (t, y.2)) := by
              have h2 := FS.out
              show (l.flatMap recC).set _ _ = (l.set q (t, y.2)).flatMap recC
              rw [← h2]
              show _ = ((l.flatMap recC).set (q * 2) (.int .i64 t)).set (q * 2 + 1) (.string y.2)
              refine (List.ext_getElem? fun i => ?_).symm
              by_cases hi : q * 2 + 1 = i
              · subst hi
                have hlen := (List.getElem?_eq_some_iff.1 Q2.out).1
                rw [List.getElem?_set_self (by rw [List.length_set]; exact hlen), List.getElem?_set_ne (by omega)]
                exact Q2.out.symm
              · rw [List.getElem?_set_ne hi]
            rw [e2] at h
            exact h
          by_cases hv1 : v = 1
          · subst hv1
            go_wp2_with fail
            refine (pick_pos _ _ _ _ r5 (by omega) (by omega)).mono ?_
            rintro e w6 ⟨q, rfl, q0, q1, r6, g6, s6⟩
            obtain ⟨q, rfl⟩ := Int.eq_ofNat_of_zero_le q0
            have O6 := Lib.hid (O5.out.grown g6 (fun a ha => fun e => by injection e with e; have := (O5.out.blk a ha).1; omega))
            have G6 := Lib.hid (gb_trans G5.out g6 (fun k hk => .inl hk))
            clear g6 s6
            go_wp2_with fail
            refine (pick_pos _ _ _ _ r6 (by omega) (by omega)).mono ?_
            rintro e w7 ⟨p, rfl, p0, p1, r7, g7, s7⟩
            obtain ⟨p, rfl⟩ := Int.eq_ofNat_of_zero_le p0
            have O7 := Lib.hid (O6.out.grown g7 (fun a ha => fun e => by injection e with e; have := (O6.out.blk a ha).1; omega))
            have G7 := Lib.hid (gb_trans G6.out g7 (fun k hk => .inl hk))
            have hqj : q < j := by omega
            obtain ⟨y, hy⟩ := fget_of_lt (xs := l) (k := q) (by rw [hll.out]; exact hqj)
            have f2 := O7.out.fcell (q * 2 + 1) (flat_at recC_len hy (j := 1) rfl)
            have f3 := O7.out.ffroz (q * 2 + 1)
            have HY := Lib.hid hy
            have hgo := (O7.out.blk _ rfl).1
            have Q1 := Lib.hid (flat_at recC_len hy (j := 0) rfl)
            clear g7 hy s7
            go_wp2_with fail
            refine (many_any ⟨#[122]⟩ (119 + p) 121 (by show 1 * (119 + p) ≤ 121; omega) (by omega) (by show 1 ≤ 1000; omega) (by omega) _).mono ?_
            rintro e w' ⟨⟨s, rfl, hs⟩, rfl⟩
            have FS := Lib.hid (flat_setMany recC_len l q (y.1, s) (by rw [hll.out]; exact hqj))
            go_wp2
            go_ret
            refine ⟨_, j, c, l.set q (y.1, s), rfl, by rw [List.length_set, hll.out], hjl, hlo.out.set q ⟨(hlo.out y (List.mem_of_getElem? HY.out)).1, (hlo.out y (List.mem_of_getElem? HY.out)).2.1, hs⟩, ?_, (r7.setCell (by show g < gg; omega) _).mono (by omega), gb_setCell G7.out (.inr (by show w.heap.size ≤ gg; omega)) _⟩
            have h := O7.out.fput (q * 2 + 1) (.string s)
            have e2 : (recs l).set (q * 2 + 1) (.string s) = recs (l.set q (y.1, s)) := by
              have h2 := FS.out
              show (l.flatMap recC).set _ _ = (l.set q (y.1, s)).flatMap recC
              rw [← h2]
              show _ = ((l.flatMap recC).set (q * 2) (.int .i64 y.1)).set (q * 2 + 1) (.string s)
              congr 1
              refine (List.ext_getElem? fun i => ?_).symm
              by_cases hi : q * 2 = i
              · subst hi
                have hlen := (List.getElem?_eq_some_iff.1 Q1.out).1
                rw [List.getElem?_set_self (by omega)]
                exact Q1.out.symm
              · rw [List.getElem?_set_ne hi]
            rw [e2] at h
            exact h
          · have e0 : (v == 0) = false := by simpa using hv0
            have e1 : (v == 1) = false := by simpa using hv1
            clear hv0 hv1
            go_wp2
            go_ret
            exact ⟨_, j, c, l, rfl, hll.out, hjl, hlo.out, O5.out, r5.mono (by omega), G5.out⟩
end Go.Proofs.Ytmphkogaclfjmaa
