/-
  What the laws' helpers on receipts return: sizes, copies, comparisons, marks. Conditions: those that each theorem bears.
-/
import Derived.Test.YtglebkjhfofkcaaSackT
namespace Go.Proofs.Ytglebkjhfofkcaa
open Go.ChangeShapes Go.WideShapes Go.ChangeAt Go.RowKit
set_option linter.unusedVariables false

theorem sz_gaps (A : Option Addr) (n c : Nat) (L : Int) (w : World) (hL : 0 ≤ L ∧ L ≤ 1048576) (hm : n ≤ 9223372036854775807) :
    Calls Try.prog 74 #[.slice A n c, .int .i64 L] w fun e w' => e = .returned (.int .i64 (if L < n then -1 else L - n)) ∧ w = w' := by
  obtain ⟨h1, h2⟩ := hL
  by_cases h : L < n
  · rw [if_pos h]
    have h' : L - n < 0 := by omega
    go_enter Try.func74, Try.ntmps74
    go_wp2
    go_ret
    exact ⟨rfl, rfl⟩
  · rw [if_neg h]
    have h' : ¬ L - n < 0 := by omega
    go_enter Try.func74, Try.ntmps74
    go_wp2
    go_ret
    exact ⟨rfl, rfl⟩
theorem sz_sack_big (cum : Int) (A : Option Addr) (n c : Nat) (w : World) (hm : n ≤ 9223372036854775807) (h : 1048576 < n) :
    Calls Try.prog 38 #[.agg #[.int .i64 cum, .slice A n c], .int .i64 1048576] w fun e w' => e = .returned (.int .i64 (-1)) ∧ Below w.heap.size w w' := by
  go_enter Try.func38, Try.ntmps38
  go_wp2_with (go_at_call 74; refine (sz_gaps _ _ _ _ _ (by omega) hm).mono ?_; rintro e w' ⟨rfl, rfl⟩)
  go_ret
  exact ⟨rfl, by go_grown⟩
theorem sz_sack_ok (cum : Int) (A : Option Addr) (n c : Nat) (w : World) (hm : n ≤ 9223372036854775807) (h : n ≤ 1048576) :
    Calls Try.prog 38 #[.agg #[.int .i64 cum, .slice A n c], .int .i64 1048576] w fun e w' => e = .returned (.int .i64 (1048576 - (n : Int))) ∧ Below w.heap.size w w' := by
  have h' : ¬ (1048576 : Int) < n := by omega
  go_enter Try.func38, Try.ntmps38
  go_wp2_with (go_at_call 74; refine (sz_gaps _ _ _ _ _ (by omega) hm).mono ?_; rintro e w' ⟨rfl, rfl⟩)
  go_ret
  exact ⟨rfl, by go_grown⟩
theorem to_gap (a b : Int) (w : World) : Calls Try.prog 87 #[.agg #[.int .i64 a, .int .i64 b]] w fun e w' => e = .returned (.agg #[.int .i64 a, .int .i64 b]) ∧ Below w.heap.size w w' := by
  go_enter Try.func87, Try.ntmps87
  go_wp2
  exact bodyPost_ret (v := .agg #[.int .i64 a, .int .i64 b]) (by simp [results, Try.results87, go_sem]) rfl ⟨rfl, by go_grown⟩
def MadeGaps (gs : List (Int × Int)) (n : Nat) (w : World) (e : Ending) (w' : World) : Prop :=
  ∃ A c, e = .returned (.slice A n c) ∧ Own w' w.heap.size 79 2 A n c (gaps gs) ∧ Below w.heap.size w w'
set_option maxHeartbeats 800000 in
theorem to_gaps (A : Option Addr) (n c : Nat) (gs : List (Int × Int)) (w : World) (hs : Sl w w.heap.size A (gaps gs)) (hn : gs.length = n) (hm : n ≤ 1048576) :
    Calls Try.prog 75 #[.slice A n c] w (MadeGaps gs n w) := by
  obtain ⟨i0, hi, hz0, hz1, hz2⟩ := info_parts info_gap
  have HS := Lib.hid hs; have HN := Lib.hid hn; clear hs hn
  go_enter Try.func75, Try.ntmps75
  go_wp2_with (at_make; refine wpList_make_full _ rfl _ _ _ rfl w.heap.size 79 i0 (.agg #[.int .i64 0, .int .i64 0]) 2 Try.underlying40 hi hz0 hz1 .i64 .i64 (n : Int) (n : Int) n rfl rfl rfl rfl (by rw [hz2]; omega) (by unfold maxLen; omega) (Nat.le_refl _) ?_; intro w1 hown hg; have O := Lib.hid hown; have G := Lib.hid hg; clear hown hg)
  go_loopw [4] (fun i wr => ∃ (k : Nat) (ys : List (Int × Int)), k ≤ n ∧ i = .int .i64 k ∧ Own wr w.heap.size 79 2 (some ⟨w.heap.size, 0, none⟩) n n (gaps ys) ∧ Hid (ys.length = n) ∧ Hid (ys.take k = gs.take k) ∧ Below w.heap.size w wr) (fun i _ => n - (intOf i).toNat)
  case atStart =>
    have h := O.out
    refine ⟨0, List.replicate n (0, 0), by omega, rfl, ?_, Lib.hid (by simp), Lib.hid rfl, (gb_to_below G.out)⟩
    have e : (madeCells (Value.agg #[.int .i64 0, .int .i64 0]).cells (n * 2)).toList = gaps (List.replicate n (0, 0)) := made_flat gapC_len (by omega) (0, 0) _ rfl n
    rw [e] at h
    exact h
  case round =>
    obtain ⟨k, ys, hk, rfl, ho, hyl, hyt, hb⟩ := hrel
    have HO := Lib.hid ho
    have HB := Lib.hid hb
    clear ho hb
    by_cases hlt : k < n
    · obtain ⟨g, hg⟩ := fget_of_lt (xs := gs) (k := k) (by rw [HN.out]; exact hlt)
      obtain ⟨b, off, rfl, hbl, e1, e2⟩ := gaps_elem ((HS.out.below HB.out (Nat.le_refl _)).more HB.out.size) hg
      have HG := Lib.hid hg
      obtain ⟨g1, g2⟩ := g
      clear hg
      go_wp2_with fail
      refine (to_gap _ _ _).mono ?_
      rintro e w2 ⟨rfl, b2⟩
      have HO2 := Lib.hid (HO.out.below b2 (Nat.le_refl _))
      have HB2 := Lib.hid (bstep HB.out b2 HB.out.size)
      have hkl : k < ys.length := by rw [hyl.out]; exact hlt
      obtain ⟨y, hy⟩ := fget_of_lt hkl
      have f1 := HO2.out.fcell (k * 2) (flat_at gapC_len hy (j := 0) rfl)
      have f2 := HO2.out.fcell (k * 2 + 1) (flat_at gapC_len hy (j := 1) rfl)
      have f3 := HO2.out.ffroz (k * 2)
      have f4 := HO2.out.ffroz (k * 2 + 1)
      clear b2 hy
      go_wp2
      go_roundw
      case rel =>
        refine ⟨k + 1, ys.set k (g1, g2), by omega, by go_num, ?_, Lib.hid (by rw [List.length_set]; exact hyl.out), Lib.hid ?_, (HB2.out.setCell (Nat.le_refl _) _).setCell (Nat.le_refl _) _⟩
        · unfold gaps
          rw [← flat_setMany gapC_len ys k (g1, g2) hkl]
          exact (HO2.out.fput (k * 2) _).fput (k * 2 + 1) _
        · rw [ftake_set ys k _ hkl, hyt.out, ftake_succ HG.out]
      case measure => simp [intOf]; omega
    · go_wp2
      go_ret
      have h1 : ys = gs := ftake_all hyt.out hyl.out HN.out (by omega)
      rw [h1] at HO
      exact ⟨_, _, rfl, HO.out, HB.out⟩
def MadeSackE (cum : Int) (gs : List (Int × Int)) (n : Nat) (w : World) (e : Ending) (w' : World) : Prop :=
  ∃ A c, e = .returned (.agg #[.int .i64 cum, .slice A n c]) ∧ Own w' w.heap.size 79 2 A n c (gaps gs) ∧ Below w.heap.size w w'
theorem to_sack (cum : Int) (A : Option Addr) (n c : Nat) (gs : List (Int × Int)) (w : World) (hs : Sl w w.heap.size A (gaps gs)) (hn : gs.length = n) (hm : n ≤ 1048576) :
    Calls Try.prog 39 #[.agg #[.int .i64 cum, .slice A n c]] w (MadeSackE cum gs n w) := by
  have HS := Lib.hid hs; have HN := Lib.hid hn; clear hs hn
  go_enter Try.func39, Try.ntmps39
  go_wp2_with fail
  refine (to_gaps _ _ _ gs _ (((HS.out.alloc (Nat.le_refl _) _).alloc (by simp) _).alloc (by simp; omega) _ |>.more (by simp; omega)) HN.out hm).mono ?_
  rintro e w1 ⟨A1, c1, rfl, o1, b1'⟩
  obtain ⟨q1, q2, q3, z1, b1⟩ := boxed3 b1'
  have x0 := q2.get 0 rfl
  have x1 := q2.get 1 rfl
  have y0 := q3.get 0 rfl
  have y1 := q3.get 1 rfl
  have f0 := q2.frozen 0
  have f1 := q2.frozen 1
  have g1 := q3.frozen 1
  have O1 := Lib.hid o1
  clear q1 q2 q3 b1' o1
  go_wp2
  refine bodyPost_ret (v := .agg #[.int .i64 cum, .slice A1 n c1]) (by simp [results, Try.results39, go_sem, x0, x1]) rfl ?_
  have h := O1.out
  simp only [World.size_alloc] at h
  exact ⟨_, _, rfl, (((h.setLow (by simp) _).setLow (by simp) _).setLow (by simp) _).lower (by omega), ((b1.setCell (by simp; omega) _).setCell (by simp) _).setCell (by simp) _⟩
theorem eq_gap (a b : Int) (w : World) : Calls Try.prog 88 #[.agg #[.int .i64 a, .int .i64 b], .agg #[.int .i64 a, .int .i64 b]] w fun e w' => e = .returned (.bool true) ∧ Below w.heap.size w w' := by
  go_enter Try.func88, Try.ntmps88
  go_wp2
  go_ret
  exact ⟨rfl, by go_grown⟩
theorem eq_gaps (A B : Option Addr) (n c d : Nat) (gs : List (Int × Int)) (w : World) (hA : Sl w w.heap.size A (gaps gs)) (hB : Sl w w.heap.size B (gaps gs)) (hn : gs.length = n) (hm : n ≤ 9223372036854775807) :
    Calls Try.prog 76 #[.slice A n c, .slice B n d] w fun e w' => e = .returned (.bool true) ∧ Below w.heap.size w w' := by
  have HA := Lib.hid hA; have HB := Lib.hid hB; have HN := Lib.hid hn; clear hA hB hn
  go_enter Try.func76, Try.ntmps76
  go_wp2
  go_loopw [5] (fun i wr => ∃ k : Nat, k ≤ n ∧ i = .int .i64 k ∧ Below w.heap.size w wr) (fun i _ => n - (intOf i).toNat)
  case atStart => exact ⟨0, by omega, rfl, Below.refl _ _⟩
  case round =>
    obtain ⟨k, hk, rfl, hb⟩ := hrel
    have BR := Lib.hid hb
    clear hb
    by_cases hlt : k < n
    · obtain ⟨g, hg⟩ := fget_of_lt (xs := gs) (k := k) (by rw [HN.out]; exact hlt)
      obtain ⟨b, off, rfl, hbl, e1, e2⟩ := gaps_elem ((HA.out.below BR.out (Nat.le_refl _)).more BR.out.size) hg
      obtain ⟨b', off', rfl, hbl', e1', e2'⟩ := gaps_elem ((HB.out.below BR.out (Nat.le_refl _)).more BR.out.size) hg
      obtain ⟨g1, g2⟩ := g
      clear hg
      have hk0 : (0 : Int) ≤ (k : Int) := by omega
      have hk1 : (k : Int) < (n : Int) := by omega
      go_wp2
      go_region_held3 (fun w' => w'.cell? ⟨b, off + k * 2, none⟩ = some (.int .i64 g1) ∧ w'.cell? ⟨b, off + k * 2 + 1, none⟩ = some (.int .i64 g2) ∧ w'.cell? ⟨b', off' + k * 2, none⟩ = some (.int .i64 g1) ∧ w'.cell? ⟨b', off' + k * 2 + 1, none⟩ = some (.int .i64 g2)) (first | exact ⟨e1, e2, e1', e2'⟩ | exact ⟨t1, t2, t3, t4⟩ | go_keep)
        (first | (go_at_call 88; refine (eq_gap _ _ _).mono ?_; rintro e w5 ⟨rfl, b5⟩; have t1 := (bcell b5).1 b (off + k * 2) hbl; have t2 := (bcell b5).1 b (off + k * 2 + 1) hbl; have t3 := (bcell b5).1 b' (off' + k * 2) hbl'; have t4 := (bcell b5).1 b' (off' + k * 2 + 1) hbl'; have t1 := t1.trans e1; have t2 := t2.trans e2; have t3 := t3.trans e1'; have t4 := t4.trans e2'; have B5 := Lib.hid (bstep BR.out.drew b5 BR.out.size); clear b5))
      go_wp2
      go_roundw
      case rel => exact ⟨k + 1, by omega, by go_num, B5.out⟩
      case measure => simp [intOf]; omega
    · go_wp2
      go_ret
      exact ⟨rfl, BR.out⟩
theorem eq_sack (cum : Int) (A B : Option Addr) (n c d : Nat) (gs : List (Int × Int)) (w : World) (hA : Sl w w.heap.size A (gaps gs)) (hB : Sl w w.heap.size B (gaps gs)) (hn : gs.length = n) (hm : n ≤ 9223372036854775807) :
    Calls Try.prog 40 #[.agg #[.int .i64 cum, .slice A n c], .agg #[.int .i64 cum, .slice B n d]] w fun e w' => e = .returned (.bool true) ∧ Below w.heap.size w w' := by
  have HA := Lib.hid hA; have HB := Lib.hid hB; have HN := Lib.hid hn; clear hA hB hn
  go_enter Try.func40, Try.ntmps40
  go_wp2_with fail
  refine (eq_gaps _ _ _ _ _ gs _ (((HA.out.alloc (Nat.le_refl _) _).alloc (by simp) _).more (by simp; omega)) (((HB.out.alloc (Nat.le_refl _) _).alloc (by simp) _).more (by simp; omega)) HN.out hm).mono ?_
  rintro e w1 ⟨rfl, b1'⟩
  obtain ⟨q1, q2, z1, b1⟩ := boxed2 b1'
  go_wp2
  go_ret
  exact ⟨rfl, b1⟩
theorem same_gaps (A B : Option Addr) (n c d : Nat) (gs : List (Int × Int)) (w : World) (hA : Sl w w.heap.size A (gaps gs)) (hB : Sl w w.heap.size B (gaps gs)) (hn : gs.length = n) (hm : n ≤ 9223372036854775807) :
    Calls Try.prog 73 #[.slice A n c, .slice B n d] w (Quiet (.bool true) w) := by
  have HA := Lib.hid hA; have HB := Lib.hid hB; have HN := Lib.hid hn; clear hA hB hn
  go_enter Try.func73, Try.ntmps73
  go_wp2
  go_loopw [5] (fun i wr => ∃ k m : Nat, k ≤ n ∧ i = .int .i64 k ∧ wr = w.drewN m) (fun i _ => n - (intOf i).toNat)
  case atStart => exact ⟨0, 0, by omega, rfl, rfl⟩
  case round =>
    obtain ⟨k, m, hk, rfl, rfl⟩ := hrel
    by_cases hlt : k < n
    · obtain ⟨g, hg⟩ := fget_of_lt (xs := gs) (k := k) (by rw [HN.out]; exact hlt)
      obtain ⟨b, off, rfl, hbl, e1, e2⟩ := gaps_elem HA.out hg
      obtain ⟨b', off', rfl, hbl', e1', e2'⟩ := gaps_elem HB.out hg
      obtain ⟨g1, g2⟩ := g
      have hk0 : (0 : Int) ≤ (k : Int) := by omega
      have hk1 : (k : Int) < (n : Int) := by omega
      clear hg hbl hbl'
      go_wp2
      go_quiet (fail)
      go_wp2
      go_roundw
      case rel => exact ⟨k + 1, _, by omega, by go_num, rfl⟩
      case measure => simp [intOf]; omega
    · go_wp2
      go_ret
      exact ⟨rfl, m, rfl⟩
theorem same_sack (cum : Int) (A B : Option Addr) (n c d : Nat) (gs : List (Int × Int)) (w : World) (hA : Sl w w.heap.size A (gaps gs)) (hB : Sl w w.heap.size B (gaps gs)) (hn : gs.length = n) (hm : n ≤ 9223372036854775807) :
    Calls Try.prog 37 #[.agg #[.int .i64 cum, .slice A n c], .agg #[.int .i64 cum, .slice B n d]] w fun e w' => e = .returned (.bool true) ∧ Below w.heap.size w w' := by
  have HA := Lib.hid hA; have HB := Lib.hid hB; have HN := Lib.hid hn; clear hA hB hn
  go_enter Try.func37, Try.ntmps37
  go_wp2_with fail
  refine (same_gaps _ _ _ _ _ gs _ (((HA.out.alloc (Nat.le_refl _) _).alloc (by simp) _).more (by simp; omega)) (((HB.out.alloc (Nat.le_refl _) _).alloc (by simp) _).more (by simp; omega)) HN.out hm).mono ?_
  rintro e w1 ⟨rfl, m, rfl⟩
  go_wp2
  go_ret
  exact ⟨rfl, below_drewN (((Below.refl _ w).alloc (Nat.le_refl _) _).alloc (by simp) _) _⟩

/-! ### Marks -/
def gmarks (k : Int) : Nat → List (Int × Int)
  | 0 => []
  | n + 1 => (k, k + 1) :: gmarks (k + 2) n
theorem gmarks_len : ∀ (n : Nat) (k : Int), (gmarks k n).length = n
  | 0, _ => rfl
  | n + 1, k => by simp [gmarks, gmarks_len n]
theorem gmarks_get : ∀ (n : Nat) (k : Int) (i : Nat), i < n → (gmarks k n)[i]? = some (k + 2 * i, k + 2 * i + 1)
  | 0, _, _, h => by omega
  | n + 1, k, 0, _ => by simp [gmarks]
  | n + 1, k, i + 1, h => by
    simp only [gmarks, List.getElem?_cons_succ]
    rw [gmarks_get n (k + 2) i (by omega)]
    congr 2 <;> omega
def MarkGPost (A : Option Addr) (n c : Nat) (k : Int) (base : Nat) (w : World) (e : Ending) (w' : World) : Prop :=
  e = .returned (.int .i64 (k + 2 * n)) ∧ Own w' base 79 2 A n c (gaps (gmarks k n)) ∧ ∃ row, w.grownBy w' row ∧ ∀ g, row = some g → ∃ a, A = some a ∧ a.block = g
theorem mark_gaps (A : Option Addr) (n c : Nat) (k : Int) (base : Nat) (gs : List (Int × Int)) (w : World) (ho : Own w base 79 2 A n c (gaps gs)) (hk : 0 ≤ k ∧ k ≤ 100000000) (hm : n ≤ 1048576) :
    Calls Try.prog 77 #[.slice A n c, .int .i64 k] w (MarkGPost A n c k base w) := by
  obtain ⟨k0, k1⟩ := hk
  have HL := Lib.hid (by have := ho.len; rw [gaps_len] at this; omega : gs.length = n)
  have HO := Lib.hid ho; clear ho
  by_cases hn : n = 0
  · subst hn
    go_enter Try.func77, Try.ntmps77
    go_wp2
    go_rounds 1
    go_ret
    have hz : gs = [] := List.eq_nil_of_length_eq_zero HL.out
    subst hz
    exact ⟨ret_int (by simp), HO.out, none, World.grownBy.refl w _, fun _ e => by cases e⟩
  · obtain ⟨g, rfl⟩ := HO.out.some_of hn
    go_enter Try.func77, Try.ntmps77
    go_wp2
    go_loopw [1, 5] (fun kv i wr => ∃ (j : Nat) (ys : List (Int × Int)), j ≤ n ∧ i = .int .i64 j ∧ kv = .int .i64 (k + 2 * j) ∧ Own wr base 79 2 (some ⟨g, 0, none⟩) n c (gaps ys) ∧ Hid (ys.length = n) ∧ Hid (ys.take j = (gmarks k n).take j) ∧ w.grownBy wr (some g)) (fun _ i _ => n - (intOf i).toNat)
    case atStart => exact ⟨0, gs, by omega, rfl, by simp, HO.out, HL, Lib.hid rfl, World.grownBy.refl w _⟩
    case round =>
      obtain ⟨j, ys, hj, rfl, rfl, ho, hyl, hyt, hg⟩ := hrel
      have HO2 := Lib.hid ho
      have HG := Lib.hid hg
      clear ho hg
      by_cases hlt : j < n
      · have hjl : j < ys.length := by rw [hyl.out]; exact hlt
        obtain ⟨y, hy⟩ := fget_of_lt hjl
        have f1 := HO2.out.fcell (j * 2) (flat_at gapC_len hy (j := 0) rfl)
        have f2 := HO2.out.fcell (j * 2 + 1) (flat_at gapC_len hy (j := 1) rfl)
        have f3 := HO2.out.ffroz (j * 2)
        have f4 := HO2.out.ffroz (j * 2 + 1)
        clear hy
        go_wp2
        go_roundw
        case rel =>
          refine ⟨j + 1, ys.set j (k + 2 * j, k + 2 * j + 1), by omega, by go_num, by go_num, ?_, Lib.hid (by rw [List.length_set]; exact hyl.out), Lib.hid ?_, gb_setCell (gb_setCell HG.out (.inl rfl) _) (.inl rfl) _⟩
          · unfold gaps
            rw [← flat_setMany gapC_len ys j _ hjl]
            exact (HO2.out.fput (j * 2) _).fput (j * 2 + 1) _
          · rw [ftake_set ys j _ hjl, hyt.out, ftake_succ (gmarks_get n k j hlt)]
        case measure => simp [intOf]; omega
      · go_wp2
        go_ret
        have h1 : ys = gmarks k n := ftake_all hyt.out hyl.out (gmarks_len n k) (by omega)
        rw [h1] at HO2
        exact ⟨ret_int (by omega), HO2.out, some g, HG.out, fun g' e => ⟨_, rfl, by injection e⟩⟩
theorem held_gaps (A : Option Addr) (n c : Nat) (k : Int) (w : World) (hA : Sl w w.heap.size A (gaps (gmarks k n))) (hk : 0 ≤ k ∧ k ≤ 100000000) (hm : n ≤ 1048576) :
    Calls Try.prog 81 #[.slice A n c, .int .i64 k] w (Quiet (.int .i64 (k + 2 * n)) w) := by
  obtain ⟨k0, k1⟩ := hk
  have HA := Lib.hid hA; clear hA
  go_enter Try.func81, Try.ntmps81
  go_wp2
  go_loopw [1, 5] (fun kv i wr => ∃ j m : Nat, j ≤ n ∧ i = .int .i64 j ∧ kv = .int .i64 (k + 2 * j) ∧ wr = w.drewN m) (fun _ i _ => n - (intOf i).toNat)
  case atStart => exact ⟨0, 0, by omega, rfl, by simp, rfl⟩
  case round =>
    obtain ⟨j, m, hj, rfl, rfl, rfl⟩ := hrel
    by_cases hlt : j < n
    · obtain ⟨b, off, rfl, hb, e1, e2⟩ := gaps_elem HA.out (gmarks_get n k j hlt)
      clear hb
      go_wp2
      go_roundw
      case rel => exact ⟨j + 1, _, by omega, by go_num, by go_num, rfl⟩
      case measure => simp [intOf]; omega
    · go_wp2
      go_ret
      exact ⟨ret_int (by omega), m, rfl⟩
theorem mark_sack (cum : Int) (A : Option Addr) (n c : Nat) (k : Int) (base : Nat) (gs : List (Int × Int)) (w : World) (ho : Own w base 79 2 A n c (gaps gs)) (hk : 0 ≤ k ∧ k ≤ 100000000) (hm : n ≤ 1048576) :
    Calls Try.prog 41 #[.agg #[.int .i64 cum, .slice A n c], .int .i64 k] w (MarkGPost A n c k base w) := by
  have HO := Lib.hid ho; clear ho
  go_enter Try.func41, Try.ntmps41
  go_wp2_with fail
  refine (mark_gaps _ _ _ _ base gs _ (HO.out.alloc _) hk hm).mono ?_
  rintro e w1 ⟨rfl, o1, row, g1, r1⟩
  go_wp2
  go_ret
  exact ⟨rfl, o1, row, gb_trans (World.grownBy_alloc w _ row) g1 (fun g e => .inl e), r1⟩
theorem held_sack (cum : Int) (A : Option Addr) (n c : Nat) (k : Int) (w : World) (hA : Sl w w.heap.size A (gaps (gmarks k n))) (hk : 0 ≤ k ∧ k ≤ 100000000) (hm : n ≤ 1048576) :
    Calls Try.prog 49 #[.agg #[.int .i64 cum, .slice A n c], .int .i64 k] w fun e w' => e = .returned (.int .i64 (k + 2 * n)) ∧ Below w.heap.size w w' := by
  have HA := Lib.hid hA; clear hA
  have hk2 : ¬ (k + 2 * n < 0) := by omega
  go_enter Try.func49, Try.ntmps49
  go_wp2_with fail
  refine (held_gaps _ _ _ _ _ ((HA.out.alloc (Nat.le_refl _) _).more (by simp)) hk hm).mono ?_
  rintro e w1 ⟨rfl, m, rfl⟩
  go_wp2
  go_ret
  exact ⟨rfl, below_drewN ((Below.refl _ w).alloc (Nat.le_refl _) _) _⟩
end Go.Proofs.Ytglebkjhfofkcaa
