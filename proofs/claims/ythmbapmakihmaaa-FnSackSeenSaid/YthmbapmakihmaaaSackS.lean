/-
  What SackSeen returns, in the program and in the reference. Conditions: the list can be read.
-/
import Derived.Test.YthmbapmakihmaaaSackV
namespace Go.Proofs.Ythmbapmakihmaaa
open Go.ChangeShapes Go.WideShapes Go.ChangeAt Go.RowKit
set_option linter.unusedVariables false

def ssCum (cum : Int) (gs : List (Int × Int)) : Int := if sackB cum gs then cum else 0
def ssExtra (cum : Int) (gs : List (Int × Int)) : List Int := if sackB cum gs then tell gs else []
def SackSeenP (cum : Int) (gs : List (Int × Int)) (w : World) : Ending → World → Prop := SeenTwo (ssCum cum gs) (ssExtra cum gs) (ssExtra cum gs).length (.bool (sackB cum gs)) w
theorem ssp_no {cum : Int} {gs : List (Int × Int)} {w : World} (h : sackB cum gs = false) : SackSeenP cum gs w = SeenTwo 0 [] 0 (.bool false) w := by
  unfold SackSeenP ssCum ssExtra
  rw [h]; rfl
theorem ssp_yes {cum : Int} {gs : List (Int × Int)} {w : World} (h : sackB cum gs = true) : SackSeenP cum gs w = SeenTwo cum (tell gs) (tell gs).length (.bool true) w := by
  unfold SackSeenP ssCum ssExtra
  rw [h]; rfl
theorem tell_take_succ {gs : List (Int × Int)} {k : Nat} {g : Int × Int} (h : gs[k]? = some g) : tell (gs.take (k + 1)) = tell (gs.take k) ++ gapRun g := by
  rw [ftake_succ h, tell_snoc]
theorem tell_take_len (gs : List (Int × Int)) (k : Nat) : (tell (gs.take k)).length ≤ (tell gs).length := by
  have h : tell gs = tell (gs.take k) ++ tell (gs.drop k) := by
    unfold tell
    rw [← List.flatMap_append, List.take_append_drop]
  rw [h, List.length_append]
  omega

set_option maxHeartbeats 1600000 in
set_option maxRecDepth 100000 in
theorem isack_seen (cum : Int) (A : Option Addr) (n c : Nat) (gs : List (Int × Int)) (w : World) (hs : Sl w w.heap.size A (gaps gs)) (hn : gs.length = n) (hm : n ≤ 9223372036854775807) :
    Calls Try.prog 5 #[.agg #[.int .i64 cum, .slice A n c]] w (SackSeenP cum gs w) := by
  obtain ⟨i0, hi, hz0, hz1, hz2⟩ := info_parts info_int'
  have HS := Lib.hid hs; have HN := Lib.hid hn; clear hs hn
  by_cases hok : sackB cum gs = true
  · rw [ssp_yes hok]
    obtain ⟨hc, h8, hgB⟩ := sackB_true hok
    have h15 := tell_len hok
    have HT := Lib.hid (fun k => tell_take_len gs k)
    have HM := Lib.hid (gapsB_mem hgB)
    have HOK := Lib.hid hok
    clear hok hgB hc
    go_enter Try.func5, Try.ntmps5
    go_wp2_with fail
    refine (isack_ok _ _ _ _ gs _ (((HS.out.alloc (Nat.le_refl _) _).alloc (by simp) _).more (by simp; omega)) HN.out hm).mono ?_
    rw [HOK.out]
    rintro e w1 ⟨rfl, b1'⟩
    obtain ⟨q1, q2, z1, b1⟩ := boxed2 b1'
    have x0 : w1.cell? ⟨w.heap.size, 0, none⟩ = some (.int .i64 cum) := q1.get 0 rfl
    have x1 : w1.cell? ⟨w.heap.size, 1, none⟩ = some (.slice A n c) := q1.get 1 rfl
    have z0 : w.heap.size < w1.heap.size := by omega
    have B1 := Lib.hid b1
    have Q1 := Lib.hid q1
    have Q2 := Lib.hid q2
    have HS1 := Lib.hid ((HS.out.below b1 (Nat.le_refl _)).more b1.size)
    clear b1 b1' q1 q2
    go_wp2
    clear x0 x1
    go_loopw [18] (fun i wr => ∃ (k : Nat) (A3 : Option Addr) (c3 : Nat), k ≤ n ∧ i = .int .i64 k ∧ Blk wr w1.heap.size #[.int .i64 cum, .slice A3 (tell (gs.take k)).length c3] 29 ∧ Own wr w1.heap.size 3 1 A3 (tell (gs.take k)).length c3 (ints (tell (gs.take k))) ∧ Below w1.heap.size w1 wr) (fun i _ => n - (intOf i).toNat)
    case atStart => exact ⟨0, none, 0, by omega, rfl, Blk.new _ _ _, Own.nil _ _ _ _, (Below.refl _ _).alloc (Nat.le_refl _) _⟩
    case round =>
      obtain ⟨k, A3, c3, hk, rfl, hq3, ho3, hb3⟩ := hrel
      have Q3 := Lib.hid hq3
      have O3 := Lib.hid ho3
      have B3 := Lib.hid hb3
      have hTk := HT.out k
      clear hq3 ho3 hb3
      by_cases hlt : k < n
      · obtain ⟨g, hg⟩ := fget_of_lt (xs := gs) (k := k) (by rw [HN.out]; exact hlt)
        obtain ⟨g0, g1', g2'⟩ := HM.out g (List.mem_of_getElem? hg)
        have HTS := Lib.hid (tell_take_succ hg)
        obtain ⟨b, off, rfl, hbl, e1, e2⟩ := gaps_elem ((HS1.out.below B3.out (Nat.le_refl _)).more B3.out.size) hg
        obtain ⟨g1, g2⟩ := g
        clear hg
        change 2 ≤ g1 at g0
        change g1 ≤ g2 at g1'
        change g2 ≤ 16 at g2'
        generalize tell (gs.take k) = T at Q3 O3 hTk HTS
        obtain ⟨wo, rfl⟩ : ∃ wo : World, wo = wr := ⟨_, rfl⟩
        have hw1 := Q3.out.lt
        go_wp2
        clear e1 e2
        go_loopw [7] (fun i wr => ∃ (j : Nat) (A3 : Option Addr) (c3 : Nat), (j : Int) ≤ g2 + 1 - g1 ∧ i = .int .i64 (g1 + j) ∧ Blk wr w1.heap.size #[.int .i64 cum, .slice A3 (T ++ runOf g1 j).length c3] 29 ∧ Own wr w1.heap.size 3 1 A3 (T ++ runOf g1 j).length c3 (ints (T ++ runOf g1 j)) ∧ Blk wr wo.heap.size #[.int .i64 g1, .int .i64 g2] 42 ∧ Below w1.heap.size w1 wr) (fun i _ => (g2 + 1 - intOf i).toNat)
        case atStart => exact ⟨0, A3, c3, by omega, by simp, by rw [show runOf g1 0 = [] from rfl, List.append_nil]; exact Q3.out.alloc _, by rw [show runOf g1 0 = [] from rfl, List.append_nil]; exact O3.out.alloc _, Blk.new _ _ _, B3.out.alloc (by omega) _⟩
        case round =>
          clear Q3 O3 B3
          obtain ⟨j, A3, c3, hj, rfl, hq3, ho3, hqg, hb3⟩ := hrel
          have Q3 := Lib.hid hq3
          have O3 := Lib.hid ho3
          have B3 := Lib.hid hb3
          have QG := Lib.hid hqg
          have hlen : (T ++ runOf g1 j).length ≤ 40 := by rw [List.length_append, runOf_len]; omega
          have u0 : wr.cell? ⟨w1.heap.size, 0, none⟩ = some (.int .i64 cum) := hq3.get 0 rfl
          have u1 : wr.cell? ⟨w1.heap.size, 1, none⟩ = some (.slice A3 (T ++ runOf g1 j).length c3) := hq3.get 1 rfl
          have v0 : wr.cell? ⟨wo.heap.size, 0, none⟩ = some (.int .i64 g1) := hqg.get 0 rfl
          have v1 : wr.cell? ⟨wo.heap.size, 1, none⟩ = some (.int .i64 g2) := hqg.get 1 rfl
          have hwl := hq3.lt
          have hwg := hqg.lt
          clear hq3 ho3 hb3 hqg
          by_cases hle : g1 + j ≤ g2
          · have HR := Lib.hid (show T ++ runOf g1 (j + 1) = (T ++ runOf g1 j) ++ [g1 + j] from by rw [runOf_snoc, List.append_assoc])
            generalize T ++ runOf g1 j = X at Q3 O3 hlen u1 HR ⊢
            go_wp2_with (at_builtin; refine wpList_app _ rfl _ _ _ rfl w1.heap.size 3 i0 (.int .i64 0) 1 8 Try.underlying27 hi hz0 hz1 hz2 rfl (by decide) A3 X.length c3 (ints X) rfl (O3.out.alloc _) (wr.heap.size + 1) (some ⟨wr.heap.size, 0, none⟩) 1 1 (ints [g1 + (j : Int)]) rfl (sl_new rfl) rfl (ints_one _) (by unfold maxLen; omega) (by omega) (by simp; omega) ?_; intro A4 c4 row w4 o4 g4 r4 d4; have O4 := Lib.hid o4; have Q4 := Lib.hid (blk_at (Q3.out.alloc _) g4 r4 (O3.out.ne_blk Q3.out (by decide))); have QG4 := Lib.hid (blk_at (QG.out.alloc _) g4 r4 (O3.out.ne_blk QG.out (by decide))); have B4 := Lib.hid (below_at (B3.out.alloc (by omega) _) (by simp; omega) g4 r4 (fun a ha => (O3.out.blk a ha).1)); have t0 : w4.cell? ⟨w1.heap.size, 0, none⟩ = some (.int .i64 cum) := Q4.out.get 0 rfl; have t1 : w4.cell? ⟨w1.heap.size, 1, none⟩ = some (.slice A3 X.length c3) := Q4.out.get 1 rfl; have tf := Q4.out.frozen 1; clear o4 g4 r4 d4)
            go_roundw
            case rel =>
              refine ⟨j + 1, A4, c4, by omega, by go_num, ?_, ?_, QG4.out.far (Nat.ne_of_gt (by simp; omega)) _, B4.out.setCell (Nat.le_refl _) _⟩
              · rw [HR.out, List.length_append]
                have h := Q4.out.set_ 1 (.slice A4 (X.length + 1) c4)
                simpa using h
              · rw [HR.out, List.length_append]
                have h := O4.out.set_ne (p := ⟨w1.heap.size, 1, none⟩) (O4.out.ne_blk Q4.out (by decide)) (.slice A4 (X.length + 1) c4)
                simpa [ints] using h
            case measure => simp [intOf]; omega
          · have hjj : j = (g2 + 1 - g1).toNat := by omega
            have HR := Lib.hid (show tell (gs.take (k + 1)) = T ++ runOf g1 j from by rw [HTS.out, hjj]; rfl)
            clear hjj
            go_wp2
            go_roundw
            case rel => exact ⟨k + 1, A3, c3, by omega, by go_num, by rw [HR.out]; exact Q3.out, by rw [HR.out]; exact O3.out, B3.out⟩
            case measure => simp [intOf]; omega
      · have hkn : k = n := by omega
        have HG := Lib.hid (show tell (gs.take k) = tell gs from by rw [List.take_of_length_le (by rw [HN.out]; omega)])
        clear hkn
        have u0 : wr.cell? ⟨w1.heap.size, 0, none⟩ = some (.int .i64 cum) := Q3.out.get 0 rfl
        have u1 : wr.cell? ⟨w1.heap.size, 1, none⟩ = some (.slice A3 (tell (gs.take k)).length c3) := Q3.out.get 1 rfl
        have Q2w := Lib.hid (Q2.out.below B3.out Q2.out.lt)
        have y0 : wr.cell? ⟨w.heap.size + 1, 0, none⟩ = some (.int .i64 0) := Q2w.out.get 0 rfl
        have y1 : wr.cell? ⟨w.heap.size + 1, 1, none⟩ = some (.slice none 0 0) := Q2w.out.get 1 rfl
        have f0 := Q2w.out.frozen 0
        have f1 := Q2w.out.frozen 1
        go_wp2
        refine bodyPost_ret (v := .tuple #[.agg #[.int .i64 cum, .slice A3 (tell (gs.take k)).length c3], .bool true]) (by simp [results, Try.results5, go_sem, y0, y1]) rfl ?_
        rw [HG.out]
        have h := O3.out
        rw [HG.out] at h
        exact ⟨_, _, rfl, ((h.setLow (by simp; omega) _).setLow (by simp; omega) _).lower (by omega), ((bstep B1.out B3.out B1.out.size).setCell (by simp) _).setCell (by simp) _⟩
  · have hok : sackB cum gs = false := by simpa using hok
    rw [ssp_no hok]
    go_enter Try.func5, Try.ntmps5
    go_wp2_with fail
    refine (isack_ok _ _ _ _ gs _ (((HS.out.alloc (Nat.le_refl _) _).alloc (by simp) _).more (by simp; omega)) HN.out hm).mono ?_
    rw [hok]
    rintro e w1 ⟨rfl, b1'⟩
    obtain ⟨q1, q2, z1, b1⟩ := boxed2 b1'
    have y0 := q2.get 0 rfl
    have y1 := q2.get 1 rfl
    have f0 := q2.frozen 0
    have f1 := q2.frozen 1
    have B1 := Lib.hid b1
    clear b1 b1' q1 q2
    go_wp2
    refine bodyPost_ret (v := .tuple #[.agg #[.int .i64 0, .slice none 0 0], .bool false]) (by simp [results, Try.results5, go_sem, y0, y1]) rfl ?_
    exact ⟨_, _, rfl, Own.nil _ _ _ _, (B1.out.setCell (by simp) _).setCell (by simp) _⟩
set_option maxHeartbeats 1600000 in
set_option maxRecDepth 100000 in
theorem ssack_seen (cum : Int) (A : Option Addr) (n c : Nat) (gs : List (Int × Int)) (w : World) (hs : Sl w w.heap.size A (gaps gs)) (hn : gs.length = n) (hm : n ≤ 9223372036854775807) :
    Calls Try.prog 6 #[.agg #[.int .i64 cum, .slice A n c]] w (SackSeenP cum gs w) := by
  obtain ⟨i0, hi, hz0, hz1, hz2⟩ := info_parts info_int'
  have HS := Lib.hid hs; have HN := Lib.hid hn; clear hs hn
  by_cases hok : sackB cum gs = true
  · rw [ssp_yes hok]
    obtain ⟨hc, h8, hgB⟩ := sackB_true hok
    have h15 := tell_len hok
    have HT := Lib.hid (fun k => tell_take_len gs k)
    have HM := Lib.hid (gapsB_mem hgB)
    have HOK := Lib.hid hok
    clear hok hgB hc
    go_enter Try.func6, Try.ntmps6
    go_wp2_with fail
    refine (ssack_ok _ _ _ _ gs _ (((HS.out.alloc (Nat.le_refl _) _).alloc (by simp) _).more (by simp; omega)) HN.out hm).mono ?_
    rw [HOK.out]
    rintro e w1 ⟨rfl, b1'⟩
    obtain ⟨q1, q2, z1, b1⟩ := boxed2 b1'
    have x0 : w1.cell? ⟨w.heap.size, 0, none⟩ = some (.int .i64 cum) := q1.get 0 rfl
    have x1 : w1.cell? ⟨w.heap.size, 1, none⟩ = some (.slice A n c) := q1.get 1 rfl
    have z0 : w.heap.size < w1.heap.size := by omega
    have B1 := Lib.hid b1
    have Q1 := Lib.hid q1
    have Q2 := Lib.hid q2
    have HS1 := Lib.hid ((HS.out.below b1 (Nat.le_refl _)).more b1.size)
    clear b1 b1' q1 q2
    go_wp2
    clear x0 x1
    go_loopw [5] (fun i wr => ∃ (k : Nat) (A3 : Option Addr) (c3 : Nat), k ≤ n ∧ i = .int .i64 k ∧ Blk wr (w1.heap.size + 1) #[.int .i64 cum, .slice A3 (tell (gs.take k)).length c3] 29 ∧ Own wr w1.heap.size 3 1 A3 (tell (gs.take k)).length c3 (ints (tell (gs.take k))) ∧ Below w1.heap.size w1 wr) (fun i _ => n - (intOf i).toNat)
    case atStart =>
      have hown := (Own.made w1 w1.heap.size 3 1 #[] 0 (Nat.le_refl _) (by unfold maxLen; omega) rfl).alloc (.cells #[.int .i64 cum, .slice (some ⟨w1.heap.size, 0, none⟩) 0 0] 29)
      have hq := Blk.new (w1.alloc (.cells #[] 3)) #[.int .i64 cum, .slice (some ⟨w1.heap.size, 0, none⟩) 0 0] 29
      simp only [World.size_alloc] at hq
      exact ⟨0, _, _, by omega, rfl, hq, hown, ((Below.refl _ _).alloc (Nat.le_refl _) _).alloc (by simp) _⟩
    case round =>
      obtain ⟨k, A3, c3, hk, rfl, hq3, ho3, hb3⟩ := hrel
      have Q3 := Lib.hid hq3
      have O3 := Lib.hid ho3
      have B3 := Lib.hid hb3
      have hTk := HT.out k
      have Q1r := Lib.hid (Q1.out.below hb3 Q1.out.lt)
      have x0 : wr.cell? ⟨w.heap.size, 0, none⟩ = some (.int .i64 cum) := Q1r.out.get 0 rfl
      have x1 : wr.cell? ⟨w.heap.size, 1, none⟩ = some (.slice A n c) := Q1r.out.get 1 rfl
      clear hq3 ho3 hb3
      by_cases hlt : k < n
      · obtain ⟨g, hg⟩ := fget_of_lt (xs := gs) (k := k) (by rw [HN.out]; exact hlt)
        obtain ⟨g0, g1', g2'⟩ := HM.out g (List.mem_of_getElem? hg)
        have HTS := Lib.hid (tell_take_succ hg)
        have HG := Lib.hid hg
        obtain ⟨b, off, rfl, hbl, e1, e2⟩ := gaps_elem ((HS1.out.below B3.out (Nat.le_refl _)).more B3.out.size) hg
        obtain ⟨g1, g2⟩ := g
        clear hg
        change 2 ≤ g1 at g0
        change g1 ≤ g2 at g1'
        change g2 ≤ 16 at g2'
        generalize tell (gs.take k) = T at Q3 O3 hTk HTS
        obtain ⟨wo, rfl⟩ : ∃ wo : World, wo = wr := ⟨_, rfl⟩
        have hw1 := Q3.out.lt
        go_wp2
        clear e1 e2 x0 x1
        go_loopw [6] (fun i wr => ∃ (j : Nat) (A3 : Option Addr) (c3 : Nat), (j : Int) ≤ g2 + 1 - g1 ∧ i = .int .i64 (g1 + j) ∧ Blk wr (w1.heap.size + 1) #[.int .i64 cum, .slice A3 (T ++ runOf g1 j).length c3] 29 ∧ Own wr w1.heap.size 3 1 A3 (T ++ runOf g1 j).length c3 (ints (T ++ runOf g1 j)) ∧ Below w1.heap.size w1 wr) (fun i _ => (g2 + 1 - intOf i).toNat)
        case atStart => exact ⟨0, A3, c3, by omega, by simp, by rw [show runOf g1 0 = [] from rfl, List.append_nil]; exact Q3.out, by rw [show runOf g1 0 = [] from rfl, List.append_nil]; exact O3.out, B3.out⟩
        case round =>
          clear Q3 O3 B3 Q1r
          obtain ⟨j, A3, c3, hj, rfl, hq3, ho3, hb3⟩ := hrel
          have Q3 := Lib.hid hq3
          have O3 := Lib.hid ho3
          have B3 := Lib.hid hb3
          have Q1r := Lib.hid (Q1.out.below hb3 Q1.out.lt)
          have x0 : wr.cell? ⟨w.heap.size, 0, none⟩ = some (.int .i64 cum) := Q1r.out.get 0 rfl
          have x1 : wr.cell? ⟨w.heap.size, 1, none⟩ = some (.slice (some ⟨b, off, none⟩) n c) := Q1r.out.get 1 rfl
          obtain ⟨b', off', hbe, hbl', e1, e2⟩ := gaps_elem ((HS1.out.below hb3 (Nat.le_refl _)).more hb3.size) HG.out
          injection hbe with hbe
          injection hbe with hb1 hb2
          subst hb1 hb2
          have hlen : (T ++ runOf g1 j).length ≤ 40 := by rw [List.length_append, runOf_len]; omega
          have u0 : wr.cell? ⟨w1.heap.size + 1, 0, none⟩ = some (.int .i64 cum) := hq3.get 0 rfl
          have u1 : wr.cell? ⟨w1.heap.size + 1, 1, none⟩ = some (.slice A3 (T ++ runOf g1 j).length c3) := hq3.get 1 rfl
          have hwl := hq3.lt
          clear hq3 ho3 hb3
          by_cases hle : g1 + j ≤ g2
          · have HR := Lib.hid (show T ++ runOf g1 (j + 1) = (T ++ runOf g1 j) ++ [g1 + j] from by rw [runOf_snoc, List.append_assoc])
            generalize T ++ runOf g1 j = X at Q3 O3 hlen u1 HR ⊢
            go_wp2_with (at_builtin; refine wpList_app _ rfl _ _ _ rfl w1.heap.size 3 i0 (.int .i64 0) 1 8 Try.underlying27 hi hz0 hz1 hz2 rfl (by decide) A3 X.length c3 (ints X) rfl (O3.out.alloc _) (wr.heap.size + 1) (some ⟨wr.heap.size, 0, none⟩) 1 1 (ints [g1 + (j : Int)]) rfl (sl_new rfl) rfl (ints_one _) (by unfold maxLen; omega) (by omega) (by simp; omega) ?_; intro A4 c4 row w4 o4 g4 r4 d4; have O4 := Lib.hid o4; have Q4 := Lib.hid (blk_at (Q3.out.alloc _) g4 r4 (O3.out.ne_blk Q3.out (by decide))); have B4 := Lib.hid (below_at (B3.out.alloc (by omega) _) (by simp; omega) g4 r4 (fun a ha => (O3.out.blk a ha).1)); have t0 : w4.cell? ⟨w1.heap.size + 1, 0, none⟩ = some (.int .i64 cum) := Q4.out.get 0 rfl; have t1 : w4.cell? ⟨w1.heap.size + 1, 1, none⟩ = some (.slice A3 X.length c3) := Q4.out.get 1 rfl; have tf := Q4.out.frozen 1; clear o4 g4 r4 d4)
            go_roundw
            case rel =>
              refine ⟨j + 1, A4, c4, by omega, by go_num, ?_, ?_, B4.out.setCell (by simp) _⟩
              · rw [HR.out, List.length_append]
                have h := Q4.out.set_ 1 (.slice A4 (X.length + 1) c4)
                simpa using h
              · rw [HR.out, List.length_append]
                have h := O4.out.set_ne (p := ⟨w1.heap.size + 1, 1, none⟩) (O4.out.ne_blk Q4.out (by decide)) (.slice A4 (X.length + 1) c4)
                simpa [ints] using h
            case measure => simp [intOf]; omega
          · have hjj : j = (g2 + 1 - g1).toNat := by omega
            have HR := Lib.hid (show tell (gs.take (k + 1)) = T ++ runOf g1 j from by rw [HTS.out, hjj]; rfl)
            clear hjj
            go_wp2
            go_roundw
            case rel => exact ⟨k + 1, A3, c3, by omega, by go_num, by rw [HR.out]; exact Q3.out, by rw [HR.out]; exact O3.out, B3.out⟩
            case measure => simp [intOf]; omega
      · have hkn : k = n := by omega
        have HG := Lib.hid (show tell (gs.take k) = tell gs from by rw [List.take_of_length_le (by rw [HN.out]; omega)])
        clear hkn
        have u0 : wr.cell? ⟨w1.heap.size + 1, 0, none⟩ = some (.int .i64 cum) := Q3.out.get 0 rfl
        have u1 : wr.cell? ⟨w1.heap.size + 1, 1, none⟩ = some (.slice A3 (tell (gs.take k)).length c3) := Q3.out.get 1 rfl
        have Q2w := Lib.hid (Q2.out.below B3.out Q2.out.lt)
        have y0 : wr.cell? ⟨w.heap.size + 1, 0, none⟩ = some (.int .i64 0) := Q2w.out.get 0 rfl
        have y1 : wr.cell? ⟨w.heap.size + 1, 1, none⟩ = some (.slice none 0 0) := Q2w.out.get 1 rfl
        have f0 := Q2w.out.frozen 0
        have f1 := Q2w.out.frozen 1
        go_wp2
        refine bodyPost_ret (v := .tuple #[.agg #[.int .i64 cum, .slice A3 (tell (gs.take k)).length c3], .bool true]) (by simp [results, Try.results6, go_sem, y0, y1]) rfl ?_
        rw [HG.out]
        have h := O3.out
        rw [HG.out] at h
        exact ⟨_, _, rfl, ((h.setLow (by simp; omega) _).setLow (by simp; omega) _).lower (by omega), ((bstep B1.out B3.out B1.out.size).setCell (by simp) _).setCell (by simp) _⟩
  · have hok : sackB cum gs = false := by simpa using hok
    rw [ssp_no hok]
    go_enter Try.func6, Try.ntmps6
    go_wp2_with fail
    refine (ssack_ok _ _ _ _ gs _ (((HS.out.alloc (Nat.le_refl _) _).alloc (by simp) _).more (by simp; omega)) HN.out hm).mono ?_
    rw [hok]
    rintro e w1 ⟨rfl, b1'⟩
    obtain ⟨q1, q2, z1, b1⟩ := boxed2 b1'
    have y0 := q2.get 0 rfl
    have y1 := q2.get 1 rfl
    have f0 := q2.frozen 0
    have f1 := q2.frozen 1
    have B1 := Lib.hid b1
    clear b1 b1' q1 q2
    go_wp2
    refine bodyPost_ret (v := .tuple #[.agg #[.int .i64 0, .slice none 0 0], .bool false]) (by simp [results, Try.results6, go_sem, y0, y1]) rfl ?_
    exact ⟨_, _, rfl, Own.nil _ _ _ _, (B1.out.setCell (by simp) _).setCell (by simp) _⟩
end Go.Proofs.Ythmbapmakihmaaa
