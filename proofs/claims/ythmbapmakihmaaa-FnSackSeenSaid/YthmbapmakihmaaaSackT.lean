/-
  What SeenSack returns, in the program and in the reference. Conditions: the list can be read.
-/
import Derived.Test.YthmbapmakihmaaaSackS
namespace Go.Proofs.Ythmbapmakihmaaa
open Go.ChangeShapes Go.WideShapes Go.ChangeAt Go.RowKit
set_option linter.unusedVariables false

theorem info_gap : (Try.prog.info? 42).map (fun i => (i.zero, i.size, i.bytes)) = some (some (.agg #[.int .i64 0, .int .i64 0]), 2, 16) := by kernel_rfl
theorem gapStep_join' (gs : List (Int × Int)) (a b : Int) : gapStep (gs ++ [(a, b)]) (b + 1) = gs ++ [(a, b + 1)] := by
  have := gapStep_join gs a (b + 1)
  rwa [show b + 1 - 1 = b from by omega] at this
theorem gaps_snoc (gs : List (Int × Int)) (g : Int × Int) : gaps (gs ++ [g]) = gaps gs ++ gapC g := by
  unfold gaps
  simp
theorem gaps_set_last (gs : List (Int × Int)) (a b z : Int) : (gaps (gs ++ [(a, b)])).set (gs.length * 2 + 1) (.int .i64 z) = gaps (gs ++ [(a, z)]) := by
  rw [gaps_snoc, gaps_snoc, List.set_append_right _ _ (by rw [gaps_len]; omega), gaps_len]
  congr 1
  rw [show gs.length * 2 + 1 - gs.length * 2 = 1 from by omega]
  rfl
theorem gaps_last (gs : List (Int × Int)) (g : Int × Int) : (gaps (gs ++ [g]))[gs.length * 2 + 1]? = some (.int .i64 g.2) :=
  flat_at gapC_len (show (gs ++ [g])[gs.length]? = some g from by simp) (j := 1) rfl
theorem gapsOf_take {zs : List Int} {k : Nat} {z : Int} (h : zs[k]? = some z) : gapsOf (zs.take (k + 1)) = gapStep (gapsOf (zs.take k)) z := by
  rw [ftake_succ h, gapsOf_snoc]
theorem last_cases {α : Type} (l : List α) : l = [] ∨ ∃ l' x, l = l' ++ [x] := by
  rcases List.eq_nil_or_concat l with h | ⟨l', x, h⟩
  · exact .inl h
  · exact .inr ⟨l', x, by rw [h, List.concat_eq_append]⟩

def SackTwo (cum : Int) (gs : List (Int × Int)) (n : Nat) (v : Value) (w : World) (e : Ending) (w' : World) : Prop :=
  ∃ A c, e = .returned (.tuple #[.agg #[.int .i64 cum, .slice A n c], v]) ∧ Own w' w.heap.size 42 2 A n c (gaps gs) ∧ Below w.heap.size w w'
def skCum (cum : Int) (zs : List Int) : Int := if seenOk cum zs then cum else 0
def skGaps (cum : Int) (zs : List Int) : List (Int × Int) := if seenOk cum zs then gapsOf zs else []
def SeenSackP (cum : Int) (zs : List Int) (w : World) : Ending → World → Prop := SackTwo (skCum cum zs) (skGaps cum zs) (skGaps cum zs).length (.bool (seenOk cum zs)) w
theorem skp_no {cum : Int} {zs : List Int} {w : World} (h : seenOk cum zs = false) : SeenSackP cum zs w = SackTwo 0 [] 0 (.bool false) w := by
  unfold SeenSackP skCum skGaps
  rw [h]; rfl
theorem skp_yes {cum : Int} {zs : List Int} {w : World} (h : seenOk cum zs = true) : SeenSackP cum zs w = SackTwo cum (gapsOf zs) (gapsOf zs).length (.bool true) w := by
  unfold SeenSackP skCum skGaps
  rw [h]; rfl

set_option maxHeartbeats 1600000 in
set_option maxRecDepth 100000 in
theorem iseen_sack (cum : Int) (A : Option Addr) (n c : Nat) (zs : List Int) (w : World) (hs : Sl w w.heap.size A (ints zs)) (hn : zs.length = n) (hm : n ≤ 9223372036854775807) :
    Calls Try.prog 8 #[.agg #[.int .i64 cum, .slice A n c]] w (SeenSackP cum zs w) := by
  obtain ⟨i0, hi, hz0, hz1, hz2⟩ := info_parts info_gap
  have HS := Lib.hid hs; have HN := Lib.hid hn; clear hs hn
  by_cases hok : seenOk cum zs = true
  · rw [skp_yes hok]
    have h15 := seenOk_len hok
    have HM := Lib.hid (seenOk_mem hok)
    have HOK := Lib.hid hok
    clear hok
    go_enter Try.func8, Try.ntmps8
    go_wp2_with fail
    refine (iseen_valid _ _ _ _ zs _ (((HS.out.alloc (Nat.le_refl _) _).alloc (by simp) _).more (by simp; omega)) HN.out hm).mono ?_
    rw [HOK.out]
    rintro e w1 ⟨rfl, b1'⟩
    obtain ⟨q1, q2, z1, b1⟩ := boxed2 b1'
    have x0 : w1.cell? ⟨w.heap.size, 0, none⟩ = some (.int .i64 cum) := q1.get 0 rfl
    have x1 : w1.cell? ⟨w.heap.size, 1, none⟩ = some (.slice A n c) := q1.get 1 rfl
    have z0 : w.heap.size < w1.heap.size := by omega
    have B1 := Lib.hid b1
    have Q1 := Lib.hid q1
    have Q2 := Lib.hid q2
    have HS1 := Lib.hid ((HS.out.below b1 (Nat.le_refl _)).more b1.size)
    clear b1 b1' q1 q2
    go_wp2
    clear x0 x1
    go_loopw [18] (fun i wr => ∃ (k : Nat) (G : List (Int × Int)) (A3 : Option Addr) (c3 : Nat), k ≤ n ∧ i = .int .i64 k ∧ Hid (gapsOf (zs.take k) = G) ∧ Blk wr w1.heap.size #[.int .i64 cum, .slice A3 G.length c3] 25 ∧ Own wr w1.heap.size 42 2 A3 G.length c3 (gaps G) ∧ Below w1.heap.size w1 wr) (fun i _ => n - (intOf i).toNat)
    case atStart => exact ⟨0, [], none, 0, by omega, rfl, Lib.hid rfl, Blk.new _ _ _, Own.nil _ _ _ _, (Below.refl _ _).alloc (Nat.le_refl _) _⟩
    case round =>
      obtain ⟨k, G, A3, c3, hk, rfl, HG, hq3, ho3, hb3⟩ := hrel
      have Q3 := Lib.hid hq3
      have O3 := Lib.hid ho3
      have B3 := Lib.hid hb3
      have hlen : G.length ≤ 20 := by
        have h1 := gapsOf_len (zs.take k)
        have h2 := List.length_take_le k zs
        have h3 := HN.out
        rw [HG.out] at h1
        omega
      have hw1 := hq3.lt
      have u0 : wr.cell? ⟨w1.heap.size, 0, none⟩ = some (.int .i64 cum) := hq3.get 0 rfl
      have u1 : wr.cell? ⟨w1.heap.size, 1, none⟩ = some (.slice A3 G.length c3) := hq3.get 1 rfl
      clear hq3 ho3 hb3
      by_cases hlt : k < n
      · obtain ⟨z, hz⟩ := fget_of_lt (xs := zs) (k := k) (by rw [HN.out]; exact hlt)
        obtain ⟨z0', z1'⟩ := HM.out z (List.mem_of_getElem? hz)
        have HTS := Lib.hid ((gapsOf_take hz).trans (by rw [HG.out]) : gapsOf (zs.take (k + 1)) = gapStep G z)
        obtain ⟨b, off, rfl, hbl, hcl⟩ := ((HS1.out.below B3.out (Nat.le_refl _)).more B3.out.size).at_ (j := k) (by rw [ints_len, HN.out]; exact hlt)
        have e1 := hcl k _ (ints_at_ hz)
        clear hcl hz HG
        rcases last_cases G with hG | ⟨G', g, hG⟩
        · subst hG
          have HTS2 := Lib.hid (HTS.out.trans (gapStep_nil z))
          clear HTS
          go_wp2_with (at_builtin; refine wpList_app _ rfl _ _ _ rfl w1.heap.size 42 i0 (.agg #[.int .i64 0, .int .i64 0]) 2 16 Try.underlying23 hi hz0 hz1 hz2 rfl (by decide) A3 0 c3 (gaps []) rfl (O3.out.alloc _) (wr.heap.size + 1) (some ⟨wr.heap.size, 0, none⟩) 1 1 (gaps [(z, z)]) rfl (sl_new rfl) rfl (gaps_one _) (by unfold maxLen; omega) (by omega) (by simp; omega) ?_; intro A4 c4 row w4 o4 g4 r4 d4; have O4 := Lib.hid o4; have Q4 := Lib.hid (blk_at (Q3.out.alloc _) g4 r4 (O3.out.ne_blk Q3.out (by decide))); have B4 := Lib.hid (below_at (B3.out.alloc (by omega) _) (by simp; omega) g4 r4 (fun a ha => (O3.out.blk a ha).1)); have t0 : w4.cell? ⟨w1.heap.size, 0, none⟩ = some (.int .i64 cum) := Q4.out.get 0 rfl; have t1 : w4.cell? ⟨w1.heap.size, 1, none⟩ = some (.slice A3 0 c3) := Q4.out.get 1 rfl; have tf := Q4.out.frozen 1; clear o4 g4 r4 d4)
          go_roundw
          case rel =>
            refine ⟨k + 1, [(z, z)], A4, c4, by omega, by go_num, HTS2, ?_, ?_, B4.out.setCell (Nat.le_refl _) _⟩
            · have h := Q4.out.set_ 1 (.slice A4 1 c4)
              simpa using h
            · have h := O4.out.set_ne (p := ⟨w1.heap.size, 1, none⟩) (O4.out.ne_blk Q4.out (by decide)) (.slice A4 1 c4)
              simpa [gaps] using h
          case measure => simp [intOf]; omega
        · subst hG
          obtain ⟨ga, gb⟩ := g
          have hml : (G' ++ [(ga, gb)]).length = G'.length + 1 := by simp
          rw [hml] at hlen u1
          have O3' := Lib.hid (by have h := O3.out; rw [hml] at h; exact h : Own wr w1.heap.size 42 2 A3 (G'.length + 1) c3 (gaps (G' ++ [(ga, gb)])))
          have Q3' := Lib.hid (by have h := Q3.out; rw [hml] at h; exact h : Blk wr w1.heap.size #[.int .i64 cum, .slice A3 (G'.length + 1) c3] 25)
          obtain ⟨ag, rfl⟩ := O3'.out.some_of (by omega)
          have hne := Lib.hid (O3'.out.ne_blk Q3'.out (by decide) _ rfl)
          have e2 : wr.cell? ⟨ag, G'.length * 2 + 1, none⟩ = some (.int .i64 gb) := O3'.out.fcell _ (gaps_last G' (ga, gb))
          have e3 := O3'.out.ffroz (G'.length * 2 + 1)
          have HGL := Lib.hid (gaps_set_last G' ga gb)
          clear hml O3 Q3
          by_cases hj : gb = z - 1
          · obtain rfl : z = gb + 1 := by omega
            have HTS2 := Lib.hid (HTS.out.trans (gapStep_join' G' ga gb))
            have hml2 := Lib.hid (show (G' ++ [(ga, gb + 1)]).length = G'.length + 1 from by simp)
            clear HTS hj
            generalize G'.length = m at hlen u1 O3' Q3' e2 e3 HGL hml2
            go_wp2
            go_roundw
            case rel =>
              refine ⟨k + 1, G' ++ [(ga, gb + 1)], some ⟨ag, 0, none⟩, c3, by omega, by go_num, HTS2, ?_, ?_, B3.out.setCell (p := ⟨ag, m * 2 + 1, none⟩) ((O3'.out.blk _ rfl).1) _⟩
              · rw [hml2.out]
                exact Q3'.out.far (p := ⟨ag, m * 2 + 1, none⟩) (fun e => hne.out e.symm) _
              · rw [hml2.out]
                have h := O3'.out.fput (m * 2 + 1) (.int .i64 (gb + 1))
                rw [HGL.out] at h
                exact h
            case measure => simp [intOf]; omega
          · have hj' : (gb == z - 1) = false := by simpa using hj
            have HTS2 := Lib.hid (HTS.out.trans (gapStep_new G' ga gb z hj))
            have hml2 := Lib.hid (show (G' ++ [(ga, gb)] ++ [(z, z)]).length = G'.length + 2 from by simp)
            have HGS := Lib.hid (gaps_snoc (G' ++ [(ga, gb)]) (z, z))
            clear HTS hj
            generalize G'.length = m at hlen u1 O3' Q3' e2 e3 HGL hml2
            go_wp2_with (at_builtin; refine wpList_app _ rfl _ _ _ rfl w1.heap.size 42 i0 (.agg #[.int .i64 0, .int .i64 0]) 2 16 Try.underlying23 hi hz0 hz1 hz2 rfl (by decide) (some ⟨ag, 0, none⟩) (m + 1) c3 (gaps (G' ++ [(ga, gb)])) rfl (O3'.out.alloc _) (wr.heap.size + 1) (some ⟨wr.heap.size, 0, none⟩) 1 1 (gapC (z, z)) rfl (sl_new rfl) rfl (gaps_one [(z, z)]) (by unfold maxLen; omega) (by omega) (by simp; omega) ?_; intro A4 c4 row w4 o4 g4 r4 d4; have O4 := Lib.hid o4; have Q4 := Lib.hid (blk_at (Q3'.out.alloc _) g4 r4 (O3'.out.ne_blk Q3'.out (by decide))); have B4 := Lib.hid (below_at (B3.out.alloc (by omega) _) (by simp; omega) g4 r4 (fun a ha => (O3'.out.blk a ha).1)); have t0 : w4.cell? ⟨w1.heap.size, 0, none⟩ = some (.int .i64 cum) := Q4.out.get 0 rfl; have t1 : w4.cell? ⟨w1.heap.size, 1, none⟩ = some (.slice (some ⟨ag, 0, none⟩) (m + 1) c3) := Q4.out.get 1 rfl; have tf := Q4.out.frozen 1; clear o4 g4 r4 d4)
            go_roundw
            case rel =>
              refine ⟨k + 1, G' ++ [(ga, gb)] ++ [(z, z)], A4, c4, by omega, by go_num, HTS2, ?_, ?_, B4.out.setCell (Nat.le_refl _) _⟩
              · rw [hml2.out]
                have h := Q4.out.set_ 1 (.slice A4 (m + 2) c4)
                simpa using h
              · rw [hml2.out, HGS.out]
                have h := O4.out.set_ne (p := ⟨w1.heap.size, 1, none⟩) (O4.out.ne_blk Q4.out (by decide)) (.slice A4 (m + 2) c4)
                exact h
            case measure => simp [intOf]; omega
      · have hkn : k = n := by omega
        have HG2 := Lib.hid (show gapsOf zs = G from by rw [← HG.out, List.take_of_length_le (by rw [HN.out]; omega)])
        clear hkn HG
        have Q2w := Lib.hid (Q2.out.below B3.out Q2.out.lt)
        have y0 : wr.cell? ⟨w.heap.size + 1, 0, none⟩ = some (.int .i64 0) := Q2w.out.get 0 rfl
        have y1 : wr.cell? ⟨w.heap.size + 1, 1, none⟩ = some (.slice none 0 0) := Q2w.out.get 1 rfl
        have f0 := Q2w.out.frozen 0
        have f1 := Q2w.out.frozen 1
        go_wp2
        refine bodyPost_ret (v := .tuple #[.agg #[.int .i64 cum, .slice A3 G.length c3], .bool true]) (by simp [results, Try.results8, go_sem, y0, y1]) rfl ?_
        rw [HG2.out]
        exact ⟨_, _, rfl, ((O3.out.setLow (by simp; omega) _).setLow (by simp; omega) _).lower (by omega), ((bstep B1.out B3.out B1.out.size).setCell (by simp) _).setCell (by simp) _⟩
  · have hok : seenOk cum zs = false := by simpa using hok
    rw [skp_no hok]
    go_enter Try.func8, Try.ntmps8
    go_wp2_with fail
    refine (iseen_valid _ _ _ _ zs _ (((HS.out.alloc (Nat.le_refl _) _).alloc (by simp) _).more (by simp; omega)) HN.out hm).mono ?_
    rw [hok]
    rintro e w1 ⟨rfl, b1'⟩
    obtain ⟨q1, q2, z1, b1⟩ := boxed2 b1'
    have y0 := q2.get 0 rfl
    have y1 := q2.get 1 rfl
    have f0 := q2.frozen 0
    have f1 := q2.frozen 1
    have B1 := Lib.hid b1
    clear b1 b1' q1 q2
    go_wp2
    refine bodyPost_ret (v := .tuple #[.agg #[.int .i64 0, .slice none 0 0], .bool false]) (by simp [results, Try.results8, go_sem, y0, y1]) rfl ?_
    exact ⟨_, _, rfl, Own.nil _ _ _ _, (B1.out.setCell (by simp) _).setCell (by simp) _⟩
end Go.Proofs.Ythmbapmakihmaaa
