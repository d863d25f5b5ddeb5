/-
  What the drawing of a receipt returns. Condition: the reader can be read; the code is a slice of bytes.
-/
import Derived.Test.YthmbapmakihmaaaSackE
import Derived.Test.YthmbapmakihmaaaDraw
import Derived.Test.YthmbapmakihmaaaAppend
import Derived.Deep.RegionHeld3
import Derived.Deep.DeepCutAuto
import Derived.Deep.RegionWith
import Derived.Deep.AppendLies
import Derived.Deep.RegionLaw
namespace Go.Proofs.Ythmbapmakihmaaa
open Go.ChangeShapes Go.WideShapes Go.ChangeAt Go.RowKit
set_option linter.unusedVariables false
set_option linter.unusedSimpArgs false

theorem goodK_any (g : Nat) (w : World) (L : Nat) (hr : RdB w g L) (hL : L ≤ 900000) : Calls Try.prog 17 #[.pointer (some ⟨g, 0, none⟩)] w (NumP 0 65535 g (L + 4) w) := by
  go_enter Try.func17, Try.ntmps17
  go_wp2_with fail
  refine (word_any _ _ _ hr hL).mono ?_
  rintro e w1 ⟨k, rfl, k0, k1, r1, g1⟩
  go_wp2
  all_goals
    go_ret
    exact ⟨_, rfl, by omega, by omega, r1, g1⟩
theorem sl_newm {w : World} {m : Nat} {cs : Array Value} {t : TypeId} {xs : List Value} (hm : w.heap.size = m) (h : cs.toList = xs) : Sl (w.alloc (.cells cs t)) (m + 1) (some ⟨m, 0, none⟩) xs := by
  subst hm
  exact sl_new h
theorem mul_le2 (a b : Int) (a0 : 0 ≤ a) (a1 : a < 3) (b0 : 0 ≤ b) (b1 : b < 2) : 0 ≤ a * b ∧ a * b ≤ 2 := by
  rcases (by omega : b = 0 ∨ b = 1) with rfl | rfl <;> omega
theorem gaps_app (gs : List (Int × Int)) (g : Int × Int) : gaps (gs ++ [g]) = gaps gs ++ gaps [g] := by
  unfold gaps
  rw [List.flatMap_append]
/-- A receipt that was drawn. -/
def SackD (g L : Nat) (w : World) (e : Ending) (w' : World) : Prop :=
  ∃ (cum : Int) (A : Option Addr) (n c : Nat) (gs : List (Int × Int)), e = .returned (.agg #[.int .i64 cum, .slice A n c]) ∧ gs.length = n ∧ n ≤ 10 ∧ Own w' w.heap.size 42 2 A n c (gaps gs) ∧ RdB w' g L ∧ w.grownBy w' (some g)
set_option maxHeartbeats 3200000 in
set_option maxRecDepth 100000 in
theorem sack_drawn (g : Nat) (w : World) (L : Nat) (hr : RdB w g L) (hL : L ≤ 800000) : Calls Try.prog 10 #[.pointer (some ⟨g, 0, none⟩)] w (SackD g (L + 100) w) := by
  obtain ⟨i0, hi, hz0, hz1, hz2⟩ := info_parts info_gap
  have hgl := hr.lt
  have Q0 := Lib.hid (Blk.new w #[.int .i64 0, .slice none 0 0] 25)
  have G0 := Lib.hid (World.grownBy_alloc w (.cells #[.int .i64 0, .slice none 0 0] 25) (some g))
  go_enter Try.func10, Try.ntmps10
  go_wp2_with fail
  refine (goodK_any _ _ L (hr.alloc _) (by omega)).mono ?_
  rintro e w1 ⟨k, rfl, k0, k1, r1, g1⟩
  have Q1 := Lib.hid (Q0.out.grown g1 (fun e => by injection e; omega))
  have G1 := Lib.hid (gb_trans G0.out g1 (fun k hk => .inl hk))
  clear g1
  have hl1 := Q1.out.lt
  have hg1 := r1.lt
  have O2 := Lib.hid ((Own.made w1 w.heap.size 42 2 #[] 0 (Nat.le_of_lt hl1) (by unfold maxLen; omega) rfl).alloc (.cells #[.int .i64 k, .slice (some ⟨w1.heap.size, 0, none⟩) 0 0] 25))
  have P2 := Lib.hid (show Blk ((w1.alloc (.cells #[] 42)).alloc (.cells #[.int .i64 k, .slice (some ⟨w1.heap.size, 0, none⟩) 0 0] 25)) (w1.heap.size + 1) #[.int .i64 k, .slice (some ⟨w1.heap.size, 0, none⟩) 0 0] 25 from by have := Blk.new (w1.alloc (.cells #[] 42)) #[.int .i64 k, .slice (some ⟨w1.heap.size, 0, none⟩) 0 0] 25; simpa using this)
  have Q2 := Lib.hid ((Q1.out.alloc (.cells #[] 42)).alloc (.cells #[.int .i64 k, .slice (some ⟨w1.heap.size, 0, none⟩) 0 0] 25))
  have R2 := Lib.hid ((r1.alloc (.cells #[] 42)).alloc (.cells #[.int .i64 k, .slice (some ⟨w1.heap.size, 0, none⟩) 0 0] 25))
  have G2 := Lib.hid (gb_alloc (gb_alloc G1.out (.cells #[] 42)) (.cells #[.int .i64 k, .slice (some ⟨w1.heap.size, 0, none⟩) 0 0] 25))
  go_wp2_with fail
  generalize ((w1.alloc (.cells #[] 42)).alloc (.cells #[.int .i64 k, .slice (some ⟨w1.heap.size, 0, none⟩) 0 0] 25)) = w2 at O2 P2 Q2 R2 G2 ⊢
  obtain ⟨pg, hpg⟩ : ∃ p, p = w1.heap.size + 1 := ⟨_, rfl⟩
  obtain ⟨rg, hrg⟩ : ∃ p, p = w1.heap.size := ⟨_, rfl⟩
  have hgp : g < pg := by omega
  have hqp : w.heap.size < pg := by omega
  rw [← hpg, ← hrg] at P2 ⊢
  rw [← hrg] at O2
  clear hpg hrg
  refine (pick_pos _ _ _ _ R2.out (by omega) (by omega)).mono ?_
  rintro e w3 ⟨N0, rfl, N00, N01, r3, g3, s3⟩
  have O3 := Lib.hid (O2.out.grown g3 (fun a ha => fun e => by injection e with e; have := (O2.out.blk a ha).1; omega))
  have P3 := Lib.hid (P2.out.grown g3 (fun e => by injection e; omega))
  have Q3 := Lib.hid (Q2.out.grown g3 (fun e => by injection e; omega))
  have G3 := Lib.hid (gb_trans G2.out g3 (fun k hk => .inl hk))
  clear g3
  clear s3
  obtain ⟨N0, rfl⟩ := Int.eq_ofNat_of_zero_le N00
  go_wp2_with fail
  refine (pick_pos _ _ _ _ r3 (by omega) (by omega)).mono ?_
  rintro e w4 ⟨q, rfl, q0, q1, r4, g4, s4⟩
  have O4 := Lib.hid (O3.out.grown g4 (fun a ha => fun e => by injection e with e; have := (O3.out.blk a ha).1; omega))
  have P4 := Lib.hid (P3.out.grown g4 (fun e => by injection e; omega))
  have Q4 := Lib.hid (Q3.out.grown g4 (fun e => by injection e; omega))
  have G4 := Lib.hid (gb_trans G3.out g4 (fun k hk => .inl hk))
  clear g4
  clear s4 O2 P2 Q2 R2 G2 O3 P3 Q3 G3 r3 G1 Q1 G0 Q0 r1
  go_upto_if 16 with (fail)
  go_cut [5] (fun s5 wx => ∃ N : Nat, s5 = .int .i64 N ∧ N ≤ 9 ∧ wx = w4)
  case first =>
    by_cases hq : q = 0
    · subst hq
      go_wp2
      go_meet
      exact ⟨9, by go_num, by omega, rfl⟩
    · have e0 : (q == 0) = false := by simpa using hq
      clear hq
      go_wp2
      go_meet
      exact ⟨N0, rfl, by omega, rfl⟩
  case rest =>
    obtain ⟨N, rfl, hN, rfl⟩ := hcut
    go_wp2
    go_loopw [4, 6] (fun av iv wr => ∃ (j n' c : Nat) (T : Int) (l : List (Int × Int)) (ga : Option Addr), j ≤ N ∧ n' ≤ j ∧ 0 ≤ T ∧ T ≤ 6 * j ∧ iv = .int .i64 j ∧ av = .int .i64 T ∧ Hid (l.length = n') ∧ Own wr w.heap.size 42 2 ga n' c (gaps l) ∧ Blk wr pg #[.int .i64 k, .slice ga n' c] 25 ∧ Blk wr w.heap.size #[.int .i64 0, .slice none 0 0] 25 ∧ RdB wr g (L + 6 + 4 * j) ∧ w.grownBy wr (some g)) (fun _ iv _ => N - (intOf iv).toNat)
    case atStart => exact ⟨0, 0, 0, 0, [], some ⟨rg, 0, none⟩, by omega, by omega, by omega, by omega, rfl, rfl, Lib.hid rfl, O4.out, P4.out, Q4.out, r4.mono (by omega), G4.out⟩
    case round =>
      obtain ⟨j, n', c, T, l, ga, hj, hn', hT0, hT1, rfl, rfl, hll, o, pp, qq, r5, gr⟩ := hrel
      have O := Lib.hid o
      have P := Lib.hid pp
      have Q := Lib.hid qq
      have G := Lib.hid gr
      clear o pp qq gr O4 P4 Q4 G4 r4
      by_cases hlt : j < N
      · go_wp2_with fail
        refine (pick_pos _ _ _ _ r5 (by omega) (by omega)).mono ?_
        rintro e w5 ⟨p1, rfl, p10, p11, r6, g5, s5⟩
        have O5 := Lib.hid (O.out.grown g5 (fun a ha => fun e => by injection e with e; have := (O.out.blk a ha).1; omega))
        have P5 := Lib.hid (P.out.grown g5 (fun e => by injection e; omega))
        have Q5 := Lib.hid (Q.out.grown g5 (fun e => by injection e; omega))
        have G5 := Lib.hid (gb_trans G.out g5 (fun k hk => .inl hk))
        clear g5
        clear s5 O P Q G r5
        have hg5 := r6.lt
        have hp5 := P5.out.lt
        have hq5 := G5.out.size
        by_cases h9 : N = 9
        · have e9 : ((N : Int) == 9) = true := by simp; omega
          have OA := Lib.hid (O5.out.alloc (.cells #[.int .i64 (T + 2), .int .i64 0] 42))
          have PA := Lib.hid (P5.out.alloc (.cells #[.int .i64 (T + 2), .int .i64 0] 42))
          have QA := Lib.hid (Q5.out.alloc (.cells #[.int .i64 (T + 2), .int .i64 0] 42))
          have RA := Lib.hid (r6.alloc (.cells #[.int .i64 (T + 2), .int .i64 0] 42))
          have GA := Lib.hid (gb_alloc G5.out (.cells #[.int .i64 (T + 2), .int .i64 0] 42))
          have HA := Lib.hid (Blk.new w5 #[.int .i64 (T + 2), .int .i64 0] 42)
          have hN5 : ∀ a, ga = some a → a.block ≠ w5.heap.size := fun a ha => by have := (O5.out.blk a ha).2.1; omega
          have OB := OA
          have PB := PA
          have QB := QA
          have RB := RA
          have GB := GA
          have HB := HA
          clear OA PA QA RA GA HA
          have xb0 := HB.out.get 0 rfl
          have xbf := HB.out.frozen 0
          have xbf1 := HB.out.frozen 1
          have hB := HB.out.lt
          go_wp2
          go_region_held3 (fun w' => w'.cell? ⟨w5.heap.size, 0, none⟩ = some (.int .i64 (T + 2))) (first | exact xb0 | exact xc0 | exact xd0 | exact (HD.out.set_ 1 _).get 0 rfl | go_keep)
            (first | (go_at_call 18; (with_reducible refine (pick_pos _ _ _ _ RB.out.drew (by omega) (by omega)).mono ?_); rintro e wC ⟨p2, rfl, p20, p21, rC', gC, sC⟩; have RC := Lib.hid rC'; have OC := Lib.hid (OB.out.drew.grown gC (fun a ha => fun e => by injection e with e; have := (OB.out.blk a ha).1; omega)); have PC := Lib.hid (PB.out.drew.grown gC (fun e => by injection e; omega)); have QC := Lib.hid (QB.out.drew.grown gC (fun e => by injection e; omega)); have HC := Lib.hid (HB.out.drew.grown gC (fun e => by injection e; omega)); have GC := Lib.hid (gb_trans (gb_drew GB.out) gC (fun k hk => .inl hk)); clear gC; clear sC rC'; have xc0 := HC.out.get 0 rfl; have xcf := HC.out.frozen 0; have xcf1 := HC.out.frozen 1; have xc1 := HC.out.get 1 rfl; have hc := HC.out.lt) | (go_at_call 18; (with_reducible refine (pick_pos _ _ _ _ RC.out (by omega) (by omega)).mono ?_); rintro e wD ⟨p3, rfl, p30, p31, rD', gD, sD⟩; have RD := Lib.hid rD'; have OD := Lib.hid (OC.out.grown gD (fun a ha => fun e => by injection e with e; have := (OC.out.blk a ha).1; omega)); have PD := Lib.hid (PC.out.grown gD (fun e => by injection e; omega)); have QD := Lib.hid (QC.out.grown gD (fun e => by injection e; omega)); have HD := Lib.hid (HC.out.grown gD (fun e => by injection e; omega)); have GD := Lib.hid (gb_trans GC.out gD (fun k hk => .inl hk)); clear gD; clear sD rD'; have xd0 := HD.out.get 0 rfl; have xdf := HD.out.frozen 0; have xdf1 := HD.out.frozen 1; have xd1 := HD.out.get 1 rfl; have hd := HD.out.lt; have hm0 := (mul_le2 p2 p3 p20 p21 p30 p31).1; have hm1 := (mul_le2 p2 p3 p20 p21 p30 p31).2; have hw1 := IntWalk.i64_in (p2 * p3) (by omega); have hw2 := IntWalk.i64_in ((T + 2) + p2 * p3) (by omega)))
          all_goals
            have OE := Lib.hid (OD.out.set_ne (p := ⟨w5.heap.size, 1, none⟩) hN5 (.int .i64 ((T + 2) + p2 * p3)))
            have PE := Lib.hid (PD.out.far (p := ⟨w5.heap.size, 1, none⟩) (by show pg ≠ w5.heap.size; omega) (.int .i64 ((T + 2) + p2 * p3)))
            have QE := Lib.hid (QD.out.far (p := ⟨w5.heap.size, 1, none⟩) (by show w.heap.size ≠ w5.heap.size; omega) (.int .i64 ((T + 2) + p2 * p3)))
            have RE := Lib.hid (RD.out.setCell (q := ⟨w5.heap.size, 1, none⟩) (by show g < w5.heap.size; omega) (.int .i64 ((T + 2) + p2 * p3)))
            have GE := Lib.hid (gb_setCell GD.out (p := ⟨w5.heap.size, 1, none⟩) (.inr (by show w.heap.size ≤ w5.heap.size; omega)) (.int .i64 ((T + 2) + p2 * p3)))
            have HE := Lib.hid (HD.out.set_ 1 (.int .i64 ((T + 2) + p2 * p3)))
            clear OD PD QD RD GD HD
            simp only [List.setIfInBounds_toArray, List.set_cons_zero, List.set_cons_succ] at HE
            have OF := Lib.hid (OE.out.set_ne (p := ⟨w5.heap.size, 1, none⟩) hN5 (.int .i64 (T + 2)))
            have PF := Lib.hid (PE.out.far (p := ⟨w5.heap.size, 1, none⟩) (by show pg ≠ w5.heap.size; omega) (.int .i64 (T + 2)))
            have QF := Lib.hid (QE.out.far (p := ⟨w5.heap.size, 1, none⟩) (by show w.heap.size ≠ w5.heap.size; omega) (.int .i64 (T + 2)))
            have RF := Lib.hid (RE.out.setCell (q := ⟨w5.heap.size, 1, none⟩) (by show g < w5.heap.size; omega) (.int .i64 (T + 2)))
            have GF := Lib.hid (gb_setCell GE.out (p := ⟨w5.heap.size, 1, none⟩) (.inr (by show w.heap.size ≤ w5.heap.size; omega)) (.int .i64 (T + 2)))
            have HF := Lib.hid (HE.out.set_ 1 (.int .i64 (T + 2)))
            clear OE PE QE RE GE HE
            simp only [List.setIfInBounds_toArray, List.set_cons_zero, List.set_cons_succ] at HF
            have z0 := HF.out.get 0 rfl
            have z1 := HF.out.get 1 rfl
            have zf0 := HF.out.frozen 0
            have zf1 := HF.out.frozen 1
            have zl := HF.out.lt
            have u1 := PF.out.get 1 rfl
            have uf1 := PF.out.frozen 1
            have ul := PF.out.lt
            have hap := OF.out.ne_blk PF.out (by decide)
            have haq := OF.out.ne_blk QF.out (by decide)
            by_cases ht : (T + 2) ≤ 16
            · skip
              go_wp2_with (at_builtin; refine wpList_app _ rfl _ _ _ rfl w.heap.size 42 i0 (.agg #[.int .i64 0, .int .i64 0]) 2 16 Try.underlying23 hi hz0 hz1 hz2 rfl (by decide) ga n' c (gaps l) rfl (OF.out.alloc _) (wD.heap.size + 1) (some ⟨wD.heap.size, 0, none⟩) 1 1 (gaps [((T + 2), (T + 2))]) rfl (sl_newm (by simp) rfl) rfl (gaps_one _) (by unfold maxLen; omega) (by omega) (by simp; omega) ?_; intro A6 c6 row w6 o6 g6 r6 d6; rw [← gaps_app] at o6; have O6 := Lib.hid o6; have P6 := Lib.hid (blk_at (PF.out.alloc _) g6 r6 (fun a ha => by have := hap a ha; omega)); have Q6 := Lib.hid (blk_at (QF.out.alloc _) g6 r6 (fun a ha => by have := haq a ha; omega)); have R6 := Lib.hid ((RF.out.alloc _).grown g6 (fun k hk => by obtain ⟨a, ha, hab⟩ := r6 k hk; have := (OF.out.blk a ha).1; omega)); have G6 := Lib.hid (gb_trans (gb_alloc GF.out _) g6 (fun k hk => .inr (by obtain ⟨a, ha, hab⟩ := r6 k hk; have := (OF.out.blk a ha).1; omega))); have v1 := P6.out.get 1 rfl; have vf1 := P6.out.frozen 1; have vl := P6.out.lt; clear o6 g6 r6 d6)
              go_wp2
              rw [show (9 : Int) = (N : Int) by omega]
              go_roundw
              case rel =>
                refine ⟨j + 1, n' + 1, c6, (T + 2), l ++ [((T + 2), (T + 2))], A6, by omega, by omega, by omega, by omega, by go_num, rfl, Lib.hid (by rw [List.length_append, hll.out]; rfl), O6.out.set_ne (O6.out.ne_blk P6.out (by decide)) _, ?_, Q6.out.far (by show w.heap.size ≠ pg; omega) _, (R6.out.setCell (by show g < pg; omega) _).mono (by omega), gb_setCell G6.out (.inr (by show w.heap.size ≤ pg; omega)) _⟩
                have h := P6.out.set_ 1 (.slice A6 (n' + 1) c6)
                simpa using h
              case measure => simp [intOf]; omega
            · have htn : (decide ((T + 2) ≤ 16)) = false := decide_eq_false ht
              go_wp2_with fail
              refine (pick_pos _ _ _ _ RF.out (by omega) (by omega)).mono ?_
              rintro e w8 ⟨p8, rfl, p80, p81, r8', g8, s8⟩
              have R8 := Lib.hid r8'
              have O8 := Lib.hid (OF.out.grown g8 (fun a ha => fun e => by injection e with e; have := (OF.out.blk a ha).1; omega))
              have P8 := Lib.hid (PF.out.grown g8 (fun e => by injection e; omega))
              have Q8 := Lib.hid (QF.out.grown g8 (fun e => by injection e; omega))
              have H8 := Lib.hid (HF.out.grown g8 (fun e => by injection e; omega))
              have G8 := Lib.hid (gb_trans GF.out g8 (fun k hk => .inl hk))
              clear g8
              clear s8 r8' z0 z1 zf0 zf1 zl u1 uf1 ul
              have z0 := H8.out.get 0 rfl
              have z1 := H8.out.get 1 rfl
              have zf0 := H8.out.frozen 0
              have zf1 := H8.out.frozen 1
              have zl := H8.out.lt
              have u1 := P8.out.get 1 rfl
              have uf1 := P8.out.frozen 1
              have ul := P8.out.lt
              by_cases h8 : p8 = 0
              · subst h8
                go_wp2_with (at_builtin; refine wpList_app _ rfl _ _ _ rfl w.heap.size 42 i0 (.agg #[.int .i64 0, .int .i64 0]) 2 16 Try.underlying23 hi hz0 hz1 hz2 rfl (by decide) ga n' c (gaps l) rfl (O8.out.alloc _) (w8.heap.size + 1) (some ⟨w8.heap.size, 0, none⟩) 1 1 (gaps [((T + 2), (T + 2))]) rfl (sl_newm (by simp) rfl) rfl (gaps_one _) (by unfold maxLen; omega) (by omega) (by simp; omega) ?_; intro A6 c6 row w6 o6 g6 r6 d6; rw [← gaps_app] at o6; have O6 := Lib.hid o6; have P6 := Lib.hid (blk_at (P8.out.alloc _) g6 r6 (fun a ha => by have := hap a ha; omega)); have Q6 := Lib.hid (blk_at (Q8.out.alloc _) g6 r6 (fun a ha => by have := haq a ha; omega)); have R6 := Lib.hid ((R8.out.alloc _).grown g6 (fun k hk => by obtain ⟨a, ha, hab⟩ := r6 k hk; have := (O8.out.blk a ha).1; omega)); have G6 := Lib.hid (gb_trans (gb_alloc G8.out _) g6 (fun k hk => .inr (by obtain ⟨a, ha, hab⟩ := r6 k hk; have := (O8.out.blk a ha).1; omega))); have v1 := P6.out.get 1 rfl; have vf1 := P6.out.frozen 1; have vl := P6.out.lt; clear o6 g6 r6 d6)
                go_wp2
                rw [show (9 : Int) = (N : Int) by omega]
                go_roundw
                case rel =>
                  refine ⟨j + 1, n' + 1, c6, (T + 2), l ++ [((T + 2), (T + 2))], A6, by omega, by omega, by omega, by omega, by go_num, rfl, Lib.hid (by rw [List.length_append, hll.out]; rfl), O6.out.set_ne (O6.out.ne_blk P6.out (by decide)) _, ?_, Q6.out.far (by show w.heap.size ≠ pg; omega) _, (R6.out.setCell (by show g < pg; omega) _).mono (by omega), gb_setCell G6.out (.inr (by show w.heap.size ≤ pg; omega)) _⟩
                  have h := P6.out.set_ 1 (.slice A6 (n' + 1) c6)
                  simpa using h
                case measure => simp [intOf]; omega
              · have e8 : (p8 == 0) = false := by simpa using h8
                clear h8
                go_wp2
                rw [show (9 : Int) = (N : Int) by omega]
                go_roundw
                case rel => exact ⟨j + 1, n', c, (T + 2), l, ga, by omega, by omega, by omega, by omega, by go_num, rfl, hll, O8.out, P8.out, Q8.out, R8.out.mono (by omega), G8.out⟩
                case measure => simp [intOf]; omega
        · skip
          have OA := Lib.hid (O5.out.alloc (.cells #[.int .i64 (T + 2 + p1), .int .i64 0] 42))
          have PA := Lib.hid (P5.out.alloc (.cells #[.int .i64 (T + 2 + p1), .int .i64 0] 42))
          have QA := Lib.hid (Q5.out.alloc (.cells #[.int .i64 (T + 2 + p1), .int .i64 0] 42))
          have RA := Lib.hid (r6.alloc (.cells #[.int .i64 (T + 2 + p1), .int .i64 0] 42))
          have GA := Lib.hid (gb_alloc G5.out (.cells #[.int .i64 (T + 2 + p1), .int .i64 0] 42))
          have HA := Lib.hid (Blk.new w5 #[.int .i64 (T + 2 + p1), .int .i64 0] 42)
          have hN5 : ∀ a, ga = some a → a.block ≠ w5.heap.size := fun a ha => by have := (O5.out.blk a ha).2.1; omega
          have OB := OA
          have PB := PA
          have QB := QA
          have RB := RA
          have GB := GA
          have HB := HA
          clear OA PA QA RA GA HA
          have e9 : ((N : Int) == 9) = false := by simp; omega
          have xb0 := HB.out.get 0 rfl
          have xbf := HB.out.frozen 0
          have xbf1 := HB.out.frozen 1
          have hB := HB.out.lt
          go_wp2
          go_region_held3 (fun w' => w'.cell? ⟨w5.heap.size, 0, none⟩ = some (.int .i64 (T + 2 + p1))) (first | exact xb0 | exact xc0 | exact xd0 | exact (HD.out.set_ 1 _).get 0 rfl | go_keep)
            (first | (go_at_call 18; (with_reducible refine (pick_pos _ _ _ _ RB.out.drew (by omega) (by omega)).mono ?_); rintro e wC ⟨p2, rfl, p20, p21, rC', gC, sC⟩; have RC := Lib.hid rC'; have OC := Lib.hid (OB.out.drew.grown gC (fun a ha => fun e => by injection e with e; have := (OB.out.blk a ha).1; omega)); have PC := Lib.hid (PB.out.drew.grown gC (fun e => by injection e; omega)); have QC := Lib.hid (QB.out.drew.grown gC (fun e => by injection e; omega)); have HC := Lib.hid (HB.out.drew.grown gC (fun e => by injection e; omega)); have GC := Lib.hid (gb_trans (gb_drew GB.out) gC (fun k hk => .inl hk)); clear gC; clear sC rC'; have xc0 := HC.out.get 0 rfl; have xcf := HC.out.frozen 0; have xcf1 := HC.out.frozen 1; have xc1 := HC.out.get 1 rfl; have hc := HC.out.lt) | (go_at_call 18; (with_reducible refine (pick_pos _ _ _ _ RC.out (by omega) (by omega)).mono ?_); rintro e wD ⟨p3, rfl, p30, p31, rD', gD, sD⟩; have RD := Lib.hid rD'; have OD := Lib.hid (OC.out.grown gD (fun a ha => fun e => by injection e with e; have := (OC.out.blk a ha).1; omega)); have PD := Lib.hid (PC.out.grown gD (fun e => by injection e; omega)); have QD := Lib.hid (QC.out.grown gD (fun e => by injection e; omega)); have HD := Lib.hid (HC.out.grown gD (fun e => by injection e; omega)); have GD := Lib.hid (gb_trans GC.out gD (fun k hk => .inl hk)); clear gD; clear sD rD'; have xd0 := HD.out.get 0 rfl; have xdf := HD.out.frozen 0; have xdf1 := HD.out.frozen 1; have xd1 := HD.out.get 1 rfl; have hd := HD.out.lt; have hm0 := (mul_le2 p2 p3 p20 p21 p30 p31).1; have hm1 := (mul_le2 p2 p3 p20 p21 p30 p31).2; have hw1 := IntWalk.i64_in (p2 * p3) (by omega); have hw2 := IntWalk.i64_in ((T + 2 + p1) + p2 * p3) (by omega)))
          all_goals
            have OE := Lib.hid (OD.out.set_ne (p := ⟨w5.heap.size, 1, none⟩) hN5 (.int .i64 ((T + 2 + p1) + p2 * p3)))
            have PE := Lib.hid (PD.out.far (p := ⟨w5.heap.size, 1, none⟩) (by show pg ≠ w5.heap.size; omega) (.int .i64 ((T + 2 + p1) + p2 * p3)))
            have QE := Lib.hid (QD.out.far (p := ⟨w5.heap.size, 1, none⟩) (by show w.heap.size ≠ w5.heap.size; omega) (.int .i64 ((T + 2 + p1) + p2 * p3)))
            have RE := Lib.hid (RD.out.setCell (q := ⟨w5.heap.size, 1, none⟩) (by show g < w5.heap.size; omega) (.int .i64 ((T + 2 + p1) + p2 * p3)))
            have GE := Lib.hid (gb_setCell GD.out (p := ⟨w5.heap.size, 1, none⟩) (.inr (by show w.heap.size ≤ w5.heap.size; omega)) (.int .i64 ((T + 2 + p1) + p2 * p3)))
            have HE := Lib.hid (HD.out.set_ 1 (.int .i64 ((T + 2 + p1) + p2 * p3)))
            clear OD PD QD RD GD HD
            simp only [List.setIfInBounds_toArray, List.set_cons_zero, List.set_cons_succ] at HE
            have z0 := HE.out.get 0 rfl
            have z1 := HE.out.get 1 rfl
            have zf0 := HE.out.frozen 0
            have zf1 := HE.out.frozen 1
            have zl := HE.out.lt
            have u1 := PE.out.get 1 rfl
            have uf1 := PE.out.frozen 1
            have ul := PE.out.lt
            have hap := OE.out.ne_blk PE.out (by decide)
            have haq := OE.out.ne_blk QE.out (by decide)
            by_cases ht : ((T + 2 + p1) + p2 * p3) ≤ 16
            · skip
              go_wp2_with (at_builtin; refine wpList_app _ rfl _ _ _ rfl w.heap.size 42 i0 (.agg #[.int .i64 0, .int .i64 0]) 2 16 Try.underlying23 hi hz0 hz1 hz2 rfl (by decide) ga n' c (gaps l) rfl (OE.out.alloc _) (wD.heap.size + 1) (some ⟨wD.heap.size, 0, none⟩) 1 1 (gaps [((T + 2 + p1), ((T + 2 + p1) + p2 * p3))]) rfl (sl_newm (by simp) rfl) rfl (gaps_one _) (by unfold maxLen; omega) (by omega) (by simp; omega) ?_; intro A6 c6 row w6 o6 g6 r6 d6; rw [← gaps_app] at o6; have O6 := Lib.hid o6; have P6 := Lib.hid (blk_at (PE.out.alloc _) g6 r6 (fun a ha => by have := hap a ha; omega)); have Q6 := Lib.hid (blk_at (QE.out.alloc _) g6 r6 (fun a ha => by have := haq a ha; omega)); have R6 := Lib.hid ((RE.out.alloc _).grown g6 (fun k hk => by obtain ⟨a, ha, hab⟩ := r6 k hk; have := (OE.out.blk a ha).1; omega)); have G6 := Lib.hid (gb_trans (gb_alloc GE.out _) g6 (fun k hk => .inr (by obtain ⟨a, ha, hab⟩ := r6 k hk; have := (OE.out.blk a ha).1; omega))); have v1 := P6.out.get 1 rfl; have vf1 := P6.out.frozen 1; have vl := P6.out.lt; clear o6 g6 r6 d6)
              go_wp2
              go_roundw
              case rel =>
                refine ⟨j + 1, n' + 1, c6, ((T + 2 + p1) + p2 * p3), l ++ [((T + 2 + p1), ((T + 2 + p1) + p2 * p3))], A6, by omega, by omega, by omega, by omega, by go_num, rfl, Lib.hid (by rw [List.length_append, hll.out]; rfl), O6.out.set_ne (O6.out.ne_blk P6.out (by decide)) _, ?_, Q6.out.far (by show w.heap.size ≠ pg; omega) _, (R6.out.setCell (by show g < pg; omega) _).mono (by omega), gb_setCell G6.out (.inr (by show w.heap.size ≤ pg; omega)) _⟩
                have h := P6.out.set_ 1 (.slice A6 (n' + 1) c6)
                simpa using h
              case measure => simp [intOf]; omega
            · have htn : (decide (((T + 2 + p1) + p2 * p3) ≤ 16)) = false := decide_eq_false ht
              go_wp2_with fail
              refine (pick_pos _ _ _ _ RE.out (by omega) (by omega)).mono ?_
              rintro e w8 ⟨p8, rfl, p80, p81, r8', g8, s8⟩
              have R8 := Lib.hid r8'
              have O8 := Lib.hid (OE.out.grown g8 (fun a ha => fun e => by injection e with e; have := (OE.out.blk a ha).1; omega))
              have P8 := Lib.hid (PE.out.grown g8 (fun e => by injection e; omega))
              have Q8 := Lib.hid (QE.out.grown g8 (fun e => by injection e; omega))
              have H8 := Lib.hid (HE.out.grown g8 (fun e => by injection e; omega))
              have G8 := Lib.hid (gb_trans GE.out g8 (fun k hk => .inl hk))
              clear g8
              clear s8 r8' z0 z1 zf0 zf1 zl u1 uf1 ul
              have z0 := H8.out.get 0 rfl
              have z1 := H8.out.get 1 rfl
              have zf0 := H8.out.frozen 0
              have zf1 := H8.out.frozen 1
              have zl := H8.out.lt
              have u1 := P8.out.get 1 rfl
              have uf1 := P8.out.frozen 1
              have ul := P8.out.lt
              by_cases h8 : p8 = 0
              · subst h8
                go_wp2_with (at_builtin; refine wpList_app _ rfl _ _ _ rfl w.heap.size 42 i0 (.agg #[.int .i64 0, .int .i64 0]) 2 16 Try.underlying23 hi hz0 hz1 hz2 rfl (by decide) ga n' c (gaps l) rfl (O8.out.alloc _) (w8.heap.size + 1) (some ⟨w8.heap.size, 0, none⟩) 1 1 (gaps [((T + 2 + p1), ((T + 2 + p1) + p2 * p3))]) rfl (sl_newm (by simp) rfl) rfl (gaps_one _) (by unfold maxLen; omega) (by omega) (by simp; omega) ?_; intro A6 c6 row w6 o6 g6 r6 d6; rw [← gaps_app] at o6; have O6 := Lib.hid o6; have P6 := Lib.hid (blk_at (P8.out.alloc _) g6 r6 (fun a ha => by have := hap a ha; omega)); have Q6 := Lib.hid (blk_at (Q8.out.alloc _) g6 r6 (fun a ha => by have := haq a ha; omega)); have R6 := Lib.hid ((R8.out.alloc _).grown g6 (fun k hk => by obtain ⟨a, ha, hab⟩ := r6 k hk; have := (O8.out.blk a ha).1; omega)); have G6 := Lib.hid (gb_trans (gb_alloc G8.out _) g6 (fun k hk => .inr (by obtain ⟨a, ha, hab⟩ := r6 k hk; have := (O8.out.blk a ha).1; omega))); have v1 := P6.out.get 1 rfl; have vf1 := P6.out.frozen 1; have vl := P6.out.lt; clear o6 g6 r6 d6)
                go_wp2
                go_roundw
                case rel =>
                  refine ⟨j + 1, n' + 1, c6, ((T + 2 + p1) + p2 * p3), l ++ [((T + 2 + p1), ((T + 2 + p1) + p2 * p3))], A6, by omega, by omega, by omega, by omega, by go_num, rfl, Lib.hid (by rw [List.length_append, hll.out]; rfl), O6.out.set_ne (O6.out.ne_blk P6.out (by decide)) _, ?_, Q6.out.far (by show w.heap.size ≠ pg; omega) _, (R6.out.setCell (by show g < pg; omega) _).mono (by omega), gb_setCell G6.out (.inr (by show w.heap.size ≤ pg; omega)) _⟩
                  have h := P6.out.set_ 1 (.slice A6 (n' + 1) c6)
                  simpa using h
                case measure => simp [intOf]; omega
              · have e8 : (p8 == 0) = false := by simpa using h8
                clear h8
                go_wp2
                go_roundw
                case rel => exact ⟨j + 1, n', c, ((T + 2 + p1) + p2 * p3), l, ga, by omega, by omega, by omega, by omega, by go_num, rfl, hll, O8.out, P8.out, Q8.out, R8.out.mono (by omega), G8.out⟩
                case measure => simp [intOf]; omega
      · have hlf : ¬ j < N := hlt
        go_wp2_with fail
        refine (pick_pos _ _ _ _ r5 (by omega) (by omega)).mono ?_
        rintro e w6 ⟨m, rfl, m0, m1, r6, g6, s6⟩
        have O6 := Lib.hid (O.out.grown g6 (fun a ha => fun e => by injection e with e; have := (O.out.blk a ha).1; omega))
        have P6 := Lib.hid (P.out.grown g6 (fun e => by injection e; omega))
        have Q6 := Lib.hid (Q.out.grown g6 (fun e => by injection e; omega))
        have G6 := Lib.hid (gb_trans G.out g6 (fun k hk => .inl hk))
        clear g6
        clear s6 O P Q G r5
        have hnl : n' ≤ 9 := by omega
        clear hlf hlt hn'
        by_cases hm0 : m = 0
        · subst hm0
          go_wp2_with fail
          refine (word_any _ _ _ r6 (by omega)).mono ?_
          rintro e w7 ⟨v, rfl, v0, v1, r7, g7⟩
          have O7 := Lib.hid (O6.out.grown g7 (fun a ha => fun e => by injection e with e; have := (O6.out.blk a ha).1; omega))
          have P7 := Lib.hid (P6.out.grown g7 (fun e => by injection e; omega))
          have Q7 := Lib.hid (Q6.out.grown g7 (fun e => by injection e; omega))
          have G7 := Lib.hid (gb_trans G6.out g7 (fun k hk => .inl hk))
          clear g7
          have y0 := P7.out.get 0 rfl
          have y1 := P7.out.get 1 rfl
          have yf0 := P7.out.frozen 0
          have yf1 := P7.out.frozen 1
          have yl := P7.out.lt
          have x0 := Q7.out.get 0 rfl
          have x1 := Q7.out.get 1 rfl
          have xf0 := Q7.out.frozen 0
          have xf1 := Q7.out.frozen 1
          have xl := Q7.out.lt
          go_wp2
          refine bodyPost_ret (v := .agg #[.int .i64 v, .slice ga n' c]) (by simp [results, Try.results10, go_sem, x0, x1, y0, y1, xl, yl]) rfl ?_
          exact ⟨v, ga, n', c, l, rfl, hll.out, by omega, (((O7.out.set_ne (p := ⟨pg, 0, none⟩) (O7.out.ne_blk P7.out (by decide)) _).set_ne (p := ⟨w.heap.size, 0, none⟩) (O7.out.ne_blk Q7.out (by decide)) _).set_ne (p := ⟨w.heap.size, 1, none⟩) (O7.out.ne_blk Q7.out (by decide)) _), (((r7.setCell (q := ⟨pg, 0, none⟩) (by show g < pg; omega) _).setCell (q := ⟨w.heap.size, 0, none⟩) (by show g < w.heap.size; omega) _).setCell (q := ⟨w.heap.size, 1, none⟩) (by show g < w.heap.size; omega) _).mono (by omega), (gb_setCell (gb_setCell (gb_setCell G7.out (p := ⟨pg, 0, none⟩) (.inr (by show w.heap.size ≤ pg; omega)) _) (p := ⟨w.heap.size, 0, none⟩) (.inr (by show w.heap.size ≤ w.heap.size; omega)) _) (p := ⟨w.heap.size, 1, none⟩) (.inr (by show w.heap.size ≤ w.heap.size; omega)) _)⟩
        have e0 : (m == 0) = false := by simpa using hm0
        by_cases hm1 : m = 1
        · subst hm1
          have y1 := P6.out.get 1 rfl
          have yf1 := P6.out.frozen 1
          have yl := P6.out.lt
          have hs6 := G6.out.size
          have R6 := Lib.hid r6
          clear r6
          go_wp2
          go_region_law (first | (refine step_app _ (by rfl) _ _ _ (by rfl) w.heap.size 42 i0 (.agg #[.int .i64 0, .int .i64 0]) 2 16 Try.underlying23 hi hz0 hz1 hz2 rfl (by decide) ga n' c (gaps l) (by rfl) (O8.out.alloc _) (w8.heap.size + 1) (some ⟨w8.heap.size, 0, none⟩) 1 1 (gaps [(pa, pb)]) (by rfl) (sl_new rfl) (by rfl) (gaps_one _) (by unfold maxLen; omega) (by omega) (by simp only [World.size_alloc]; have := G8.out.size; omega) ?_; intro A9 c9 row w9 o9 g9 r9 d9; rw [← gaps_app] at o9; have O9 := Lib.hid o9; have P9 := Lib.hid (blk_at (P8.out.alloc _) g9 r9 (O8.out.ne_blk P8.out (by decide))); have Q9 := Lib.hid (blk_at (Q8.out.alloc _) g9 r9 (O8.out.ne_blk Q8.out (by decide))); have R9 := Lib.hid ((R8.out.alloc _).grown g9 (fun k hk => by obtain ⟨a, ha, hab⟩ := r9 k hk; have := (O8.out.blk a ha).1; omega)); have G9 := Lib.hid (gb_trans (gb_alloc G8.out _) g9 (fun k hk => .inr (by obtain ⟨a, ha, hab⟩ := r9 k hk; have := (O8.out.blk a ha).1; omega))); have y1 := P9.out.get 1 rfl; have yf1 := P9.out.frozen 1; have yl := P9.out.lt; clear o9 g9 r9 d9) | (go_simp; go_at_call 18; (with_reducible refine (pick_pos _ _ _ _ R6.out.drew (by omega) (by omega)).mono ?_); rintro e w7 ⟨pa, rfl, pa0, pa1, r7', g7, s7⟩; have R7 := Lib.hid r7'; have O7 := Lib.hid (O6.out.drew.grown g7 (fun a ha => fun e => by injection e with e; have := (O6.out.blk a ha).1; omega)); have P7 := Lib.hid (P6.out.drew.grown g7 (fun e => by injection e; omega)); have Q7 := Lib.hid (Q6.out.drew.grown g7 (fun e => by injection e; omega)); have G7 := Lib.hid (gb_trans (gb_drew G6.out) g7 (fun k hk => .inl hk)); clear g7; clear s7 r7'; have y1 := P7.out.get 1 rfl; have yf1 := P7.out.frozen 1; have yl := P7.out.lt) | (go_simp; go_at_call 18; (with_reducible refine (pick_pos _ _ _ _ R7.out (by omega) (by omega)).mono ?_); rintro e w8 ⟨pb, rfl, pb0, pb1, r8', g8, s8⟩; have R8 := Lib.hid r8'; have O8 := Lib.hid (O7.out.grown g8 (fun a ha => fun e => by injection e with e; have := (O7.out.blk a ha).1; omega)); have P8 := Lib.hid (P7.out.grown g8 (fun e => by injection e; omega)); have Q8 := Lib.hid (Q7.out.grown g8 (fun e => by injection e; omega)); have G8 := Lib.hid (gb_trans G7.out g8 (fun k hk => .inl hk)); clear g8; clear s8 r8'; have y1 := P8.out.get 1 rfl; have yf1 := P8.out.frozen 1; have yl := P8.out.lt))
          all_goals
            have R9' := R9.out
            have y0 := P9.out.get 0 rfl
            have y1 := P9.out.get 1 rfl
            have yf0 := P9.out.frozen 0
            have yf1 := P9.out.frozen 1
            have yl := P9.out.lt
            have x0 := Q9.out.get 0 rfl
            have x1 := Q9.out.get 1 rfl
            have xf0 := Q9.out.frozen 0
            have xf1 := Q9.out.frozen 1
            have xl := Q9.out.lt
            go_wp2
            refine bodyPost_ret (v := .agg #[.int .i64 k, .slice A9 (n' + 1) c9]) (by simp [results, Try.results10, go_sem, x0, x1, y0, y1, xl, yl]) rfl ?_
            exact ⟨k, A9, (n' + 1), c9, (l ++ [(pa, pb)]), rfl, (by rw [List.length_append, hll.out]; rfl), by omega, (((O9.out.set_ne (p := ⟨pg, 1, none⟩) (O9.out.ne_blk P9.out (by decide)) _).set_ne (p := ⟨w.heap.size, 0, none⟩) (O9.out.ne_blk Q9.out (by decide)) _).set_ne (p := ⟨w.heap.size, 1, none⟩) (O9.out.ne_blk Q9.out (by decide)) _), (((R9'.setCell (q := ⟨pg, 1, none⟩) (by show g < pg; omega) _).setCell (q := ⟨w.heap.size, 0, none⟩) (by show g < w.heap.size; omega) _).setCell (q := ⟨w.heap.size, 1, none⟩) (by show g < w.heap.size; omega) _).mono (by omega), (gb_setCell (gb_setCell (gb_setCell G9.out (p := ⟨pg, 1, none⟩) (.inr (by show w.heap.size ≤ pg; omega)) _) (p := ⟨w.heap.size, 0, none⟩) (.inr (by show w.heap.size ≤ w.heap.size; omega)) _) (p := ⟨w.heap.size, 1, none⟩) (.inr (by show w.heap.size ≤ w.heap.size; omega)) _)⟩
        · have e1 : (m == 1) = false := by simpa using hm1
          clear hm0 hm1
          have y0 := P6.out.get 0 rfl
          have y1 := P6.out.get 1 rfl
          have yf0 := P6.out.frozen 0
          have yf1 := P6.out.frozen 1
          have yl := P6.out.lt
          have x0 := Q6.out.get 0 rfl
          have x1 := Q6.out.get 1 rfl
          have xf0 := Q6.out.frozen 0
          have xf1 := Q6.out.frozen 1
          have xl := Q6.out.lt
          go_wp2
          refine bodyPost_ret (v := .agg #[.int .i64 k, .slice ga n' c]) (by simp [results, Try.results10, go_sem, x0, x1, y0, y1, xl, yl]) rfl ?_
          exact ⟨k, ga, n', c, l, rfl, hll.out, by omega, ((O6.out.set_ne (p := ⟨w.heap.size, 0, none⟩) (O6.out.ne_blk Q6.out (by decide)) _).set_ne (p := ⟨w.heap.size, 1, none⟩) (O6.out.ne_blk Q6.out (by decide)) _), ((r6.setCell (q := ⟨w.heap.size, 0, none⟩) (by show g < w.heap.size; omega) _).setCell (q := ⟨w.heap.size, 1, none⟩) (by show g < w.heap.size; omega) _).mono (by omega), (gb_setCell (gb_setCell G6.out (p := ⟨w.heap.size, 0, none⟩) (.inr (by show w.heap.size ≤ w.heap.size; omega)) _) (p := ⟨w.heap.size, 1, none⟩) (.inr (by show w.heap.size ≤ w.heap.size; omega)) _)⟩
/-- A receipt that was drawn from a code. -/
def SackDr (w : World) (e : Ending) (w' : World) : Prop :=
  ∃ (cum : Int) (A : Option Addr) (n c : Nat) (gs : List (Int × Int)), e = .returned (.agg #[.int .i64 cum, .slice A n c]) ∧ gs.length = n ∧ n ≤ 10 ∧ Own w' w.heap.size 42 2 A n c (gaps gs) ∧ Below w.heap.size w w'
theorem draw_sack_seen (A0 : Option Addr) (n0 c0 : Nat) (w : World) (h : Bts w A0 n0 c0) : Calls Try.prog 4 #[.slice A0 n0 c0] w (SackDr w) := by
  have H := Lib.hid (h.below ((Below.refl _ w).alloc (Nat.le_refl _) (.cells #[.int .i64 0, .slice none 0 0] 25))); clear h
  go_enter Try.func4, Try.ntmps4
  go_wp2_with fail
  refine (opened _ _ _ _ H.out).mono ?_
  rintro e w1 ⟨rfl, r1, b1', s1⟩
  obtain ⟨q1, z1, b1⟩ := boxed b1'
  simp only [World.size_alloc] at r1
  have Q1 := Lib.hid q1
  have B1 := Lib.hid b1
  clear b1' b1 q1 s1
  go_wp2_with fail
  refine (sack_drawn _ _ _ r1 (by omega)).mono ?_
  rintro e w2 ⟨cum, A, n, c, zs, rfl, hzl, hn, o2, r2, g2⟩
  have HZ := Lib.hid hzl
  have Q2 := Lib.hid (Q1.out.grown g2 (fun e => by injection e; omega))
  have O2 := Lib.hid o2
  have B2 := Lib.hid (B1.out.grown g2 B1.out.size (fun k hk => by injection hk; omega))
  have y0 := Q2.out.get 0 rfl
  have y1 := Q2.out.get 1 rfl
  have f0 := Q2.out.frozen 0
  have f1 := Q2.out.frozen 1
  clear hzl o2 g2 r1 r2
  go_wp2
  refine bodyPost_ret (v := .agg #[.int .i64 cum, .slice A n c]) (by simp [results, Try.results4, go_sem, y0, y1]) rfl ?_
  exact ⟨cum, A, n, c, zs, rfl, HZ.out, hn, ((O2.out.setLow (by simp; omega) _).setLow (by simp; omega) _).lower (by omega), (B2.out.setCell (by simp) _).setCell (by simp) _⟩
end Go.Proofs.Ythmbapmakihmaaa
