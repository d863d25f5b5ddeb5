/-
  What the laws' helpers on captures return: sizes, copies, comparisons. Conditions: those that each theorem bears.
-/
import Derived.Test.YtmphkogaclfjmaaCapV
import Derived.Test.YtmphkogaclfjmaaAppend
namespace Go.Proofs.Ytmphkogaclfjmaa
open Go.ChangeShapes Go.WideShapes Go.ChangeAt Go.RowKit
set_option linter.unusedVariables false

theorem info_rec : (Try.prog.info? 33).map (fun i => (i.zero, i.size, i.bytes)) = some (some (.agg #[.int .i64 0, .string ⟨#[]⟩]), 2, 24) := by kernel_rfl
theorem sz_rec (t : Int) (s : ByteArray) (L : Int) (w : World) (hL : 0 ≤ L ∧ L ≤ 1048576) (hs : s.size ≤ 9223372036854775807) :
    Calls Try.prog 36 #[.agg #[.int .i64 t, .string s], .int .i64 L] w fun e w' => e = .returned (.int .i64 (if L < s.size then -1 else L - s.size)) ∧ Below w.heap.size w w' := by
  obtain ⟨h1, h2⟩ := hL
  by_cases h : L < s.size
  · rw [if_pos h]
    have h' : L - s.size < 0 := by omega
    go_enter Try.func36, Try.ntmps36
    go_wp2
    go_ret
    exact ⟨rfl, by go_grown⟩
  · rw [if_neg h]
    have h' : ¬ L - s.size < 0 := by omega
    go_enter Try.func36, Try.ntmps36
    go_wp2
    go_ret
    exact ⟨rfl, by go_grown⟩
/-- Too much, or what is left: then the list is not too long. -/
def SzP (n : Nat) (w : World) (e : Ending) (w' : World) : Prop := ∃ m : Int, e = .returned (.int .i64 m) ∧ (m = -1 ∨ (0 ≤ m ∧ m ≤ 1048576 ∧ n ≤ 1048576)) ∧ Below w.heap.size w w'
set_option maxHeartbeats 800000 in
theorem sz_recs (A : Option Addr) (n c : Nat) (l : List Rec) (w : World) (hs : Sl w w.heap.size A (recs l)) (hn : l.length = n) (hm : n ≤ 9223372036854775807) (ht : Txts l) :
    Calls Try.prog 18 #[.slice A n c, .int .i64 1048576] w (SzP n w) := by
  have HS := Lib.hid hs; have HN := Lib.hid hn; have HT := Lib.hid ht; clear hs hn ht
  by_cases hbig : 1048576 < n
  · have h' : (1048576 : Int) - n < 0 := by omega
    go_enter Try.func18, Try.ntmps18
    go_wp2
    go_ret
    exact ⟨-1, rfl, .inl rfl, Below.refl _ _⟩
  · have h' : ¬ (1048576 : Int) - n < 0 := by omega
    go_enter Try.func18, Try.ntmps18
    go_wp2
    go_loopw [1, 5] (fun p i wr => ∃ (k : Nat) (L : Int), k ≤ n ∧ 0 ≤ L ∧ L ≤ 1048576 ∧ i = .int .i64 k ∧ p = .int .i64 L ∧ Below w.heap.size w wr) (fun _ i _ => n - (intOf i).toNat)
    case atStart => exact ⟨0, 1048576 - n, by omega, by omega, by omega, rfl, rfl, Below.refl _ _⟩
    case round =>
      obtain ⟨k, L, hk, hL1, hL2, rfl, rfl, hb⟩ := hrel
      have B := Lib.hid hb
      clear hb
      by_cases hlt : k < n
      · obtain ⟨r, hr⟩ := fget_of_lt (xs := l) (k := k) (by rw [HN.out]; exact hlt)
        obtain ⟨b, off, rfl, hbl, e1, e2⟩ := recs_elem ((HS.out.below B.out (Nat.le_refl _)).more B.out.size) hr
        have hts := HT.out r (List.mem_of_getElem? hr)
        obtain ⟨t, s⟩ := r
        change s.size ≤ 9223372036854775807 at hts
        clear hr
        by_cases hbg : L < s.size
        · go_wp2_with fail
          refine (sz_rec _ _ _ _ ⟨hL1, hL2⟩ hts).mono ?_
          rw [if_pos (by omega)]
          rintro e w2 ⟨rfl, b2⟩
          go_wp2
          go_ret
          exact ⟨-1, rfl, .inl rfl, bstep B.out b2 B.out.size⟩
        · go_wp2_with fail
          refine (sz_rec _ _ _ _ ⟨hL1, hL2⟩ hts).mono ?_
          rw [if_neg (by omega)]
          rintro e w2 ⟨rfl, b2⟩
          have B2 := Lib.hid (bstep B.out b2 B.out.size)
          clear b2
          have h3 : ¬ L - s.size < 0 := by omega
          go_wp2
          go_roundw
          case rel => exact ⟨k + 1, L - s.size, by omega, by omega, by omega, by go_num, rfl, B2.out⟩
          case measure => simp [intOf]; omega
      · go_wp2
        go_ret
        exact ⟨L, rfl, .inr ⟨by omega, by omega, by omega⟩, B.out⟩
theorem to_rec (t : Int) (s : ByteArray) (w : World) : Calls Try.prog 38 #[.agg #[.int .i64 t, .string s]] w fun e w' => e = .returned (.agg #[.int .i64 t, .string s]) ∧ Below w.heap.size w w' := by
  go_enter Try.func38, Try.ntmps38
  go_wp2
  exact bodyPost_ret (v := .agg #[.int .i64 t, .string s]) (by simp [results, Try.results38, go_sem]) rfl ⟨rfl, by go_grown⟩
def MadeRecs (l : List Rec) (n : Nat) (w : World) (e : Ending) (w' : World) : Prop :=
  ∃ A c, e = .returned (.slice A n c) ∧ Own w' w.heap.size 33 2 A n c (recs l) ∧ Below w.heap.size w w'
set_option maxHeartbeats 800000 in
theorem to_recs (A : Option Addr) (n c : Nat) (l : List Rec) (w : World) (hs : Sl w w.heap.size A (recs l)) (hn : l.length = n) (hm : n ≤ 1048576) :
    Calls Try.prog 20 #[.slice A n c] w (MadeRecs l n w) := by
  obtain ⟨i0, hi, hz0, hz1, hz2⟩ := info_parts info_rec
  have HS := Lib.hid hs; have HN := Lib.hid hn; clear hs hn
  go_enter Try.func20, Try.ntmps20
  go_wp2_with (at_make; refine wpList_make_full _ rfl _ _ _ rfl w.heap.size 33 i0 (.agg #[.int .i64 0, .string ⟨#[]⟩]) 2 Try.underlying25 hi hz0 hz1 .i64 .i64 (n : Int) (n : Int) n rfl rfl rfl rfl (by rw [hz2]; omega) (by unfold maxLen; omega) (Nat.le_refl _) ?_; intro w1 hown hg; have O := Lib.hid hown; have G := Lib.hid hg; clear hown hg)
  go_loopw [4] (fun i wr => ∃ (k : Nat) (ys : List Rec), k ≤ n ∧ i = .int .i64 k ∧ Own wr w.heap.size 33 2 (some ⟨w.heap.size, 0, none⟩) n n (recs ys) ∧ Hid (ys.length = n) ∧ Hid (ys.take k = l.take k) ∧ Below w.heap.size w wr) (fun i _ => n - (intOf i).toNat)
  case atStart =>
    have h := O.out
    refine ⟨0, List.replicate n (0, ⟨#[]⟩), by omega, rfl, ?_, Lib.hid (by simp), Lib.hid rfl, (gb_to_below G.out)⟩
    have e : (madeCells (Value.agg #[.int .i64 0, .string ⟨#[]⟩]).cells (n * 2)).toList = recs (List.replicate n (0, ⟨#[]⟩)) := made_flat recC_len (by omega) (0, ⟨#[]⟩) _ rfl n
    rw [e] at h
    exact h
  case round =>
    obtain ⟨k, ys, hk, rfl, ho, hyl, hyt, hb⟩ := hrel
    have HO := Lib.hid ho
    have HB := Lib.hid hb
    clear ho hb
    by_cases hlt : k < n
    · obtain ⟨g, hg⟩ := fget_of_lt (xs := l) (k := k) (by rw [HN.out]; exact hlt)
      obtain ⟨b, off, rfl, hbl, e1, e2⟩ := recs_elem ((HS.out.below HB.out (Nat.le_refl _)).more HB.out.size) hg
      have HG := Lib.hid hg
      obtain ⟨g1, g2⟩ := g
      clear hg
      go_wp2_with fail
      refine (to_rec _ _ _).mono ?_
      rintro e w2 ⟨rfl, b2⟩
      have HO2 := Lib.hid (HO.out.below b2 (Nat.le_refl _))
      have HB2 := Lib.hid (bstep HB.out b2 HB.out.size)
      have hkl : k < ys.length := by rw [hyl.out]; exact hlt
      obtain ⟨y, hy⟩ := fget_of_lt hkl
      have f1 := HO2.out.fcell (k * 2) (flat_at recC_len hy (j := 0) rfl)
      have f2 := HO2.out.fcell (k * 2 + 1) (flat_at recC_len hy (j := 1) rfl)
      have f3 := HO2.out.ffroz (k * 2)
      have f4 := HO2.out.ffroz (k * 2 + 1)
      clear b2 hy
      go_wp2
      go_roundw
      case rel =>
        refine ⟨k + 1, ys.set k (g1, g2), by omega, by go_num, ?_, Lib.hid (by rw [List.length_set]; exact hyl.out), Lib.hid ?_, (HB2.out.setCell (Nat.le_refl _) _).setCell (Nat.le_refl _) _⟩
        · unfold recs
          rw [← flat_setMany recC_len ys k (g1, g2) hkl]
          exact (HO2.out.fput (k * 2) _).fput (k * 2 + 1) _
        · rw [ftake_set ys k _ hkl, hyt.out, ftake_succ HG.out]
      case measure => simp [intOf]; omega
    · go_wp2
      go_ret
      have h1 : ys = l := ftake_all hyt.out hyl.out HN.out (by omega)
      rw [h1] at HO
      exact ⟨_, _, rfl, HO.out, HB.out⟩
theorem eq_rec (t : Int) (s : ByteArray) (w : World) : Calls Try.prog 39 #[.agg #[.int .i64 t, .string s], .agg #[.int .i64 t, .string s]] w fun e w' => e = .returned (.bool true) ∧ Below w.heap.size w w' := by
  go_enter Try.func39, Try.ntmps39
  go_wp2
  go_ret
  exact ⟨rfl, by go_grown⟩
theorem eq_recs (A B : Option Addr) (n c d : Nat) (l : List Rec) (w : World) (hA : Sl w w.heap.size A (recs l)) (hB : Sl w w.heap.size B (recs l)) (hn : l.length = n) (hm : n ≤ 9223372036854775807) :
    Calls Try.prog 22 #[.slice A n c, .slice B n d] w fun e w' => e = .returned (.bool true) ∧ Below w.heap.size w w' := by
  have HA := Lib.hid hA; have HB := Lib.hid hB; have HN := Lib.hid hn; clear hA hB hn
  go_enter Try.func22, Try.ntmps22
  go_wp2
  go_loopw [5] (fun i wr => ∃ k : Nat, k ≤ n ∧ i = .int .i64 k ∧ Below w.heap.size w wr) (fun i _ => n - (intOf i).toNat)
  case atStart => exact ⟨0, by omega, rfl, Below.refl _ _⟩
  case round =>
    obtain ⟨k, hk, rfl, hb⟩ := hrel
    have BR := Lib.hid hb
    clear hb
    by_cases hlt : k < n
    · obtain ⟨g, hg⟩ := fget_of_lt (xs := l) (k := k) (by rw [HN.out]; exact hlt)
      obtain ⟨b, off, rfl, hbl, e1, e2⟩ := recs_elem ((HA.out.below BR.out (Nat.le_refl _)).more BR.out.size) hg
      obtain ⟨b', off', rfl, hbl', e1', e2'⟩ := recs_elem ((HB.out.below BR.out (Nat.le_refl _)).more BR.out.size) hg
      obtain ⟨g1, g2⟩ := g
      clear hg
      have hk0 : (0 : Int) ≤ (k : Int) := by omega
      have hk1 : (k : Int) < (n : Int) := by omega
      go_wp2
      go_region_held3 (fun w' => w'.cell? ⟨b, off + k * 2, none⟩ = some (.int .i64 g1) ∧ w'.cell? ⟨b, off + k * 2 + 1, none⟩ = some (.string g2) ∧ w'.cell? ⟨b', off' + k * 2, none⟩ = some (.int .i64 g1) ∧ w'.cell? ⟨b', off' + k * 2 + 1, none⟩ = some (.string g2)) (first | exact ⟨e1, e2, e1', e2'⟩ | exact ⟨t1, t2, t3, t4⟩ | go_keep)
        (first | (go_at_call 39; refine (eq_rec _ _ _).mono ?_; rintro e w5 ⟨rfl, b5⟩; have t1 := (bcell b5).1 b (off + k * 2) hbl; have t2 := (bcell b5).1 b (off + k * 2 + 1) hbl; have t3 := (bcell b5).1 b' (off' + k * 2) hbl'; have t4 := (bcell b5).1 b' (off' + k * 2 + 1) hbl'; have t1 := t1.trans e1; have t2 := t2.trans e2; have t3 := t3.trans e1'; have t4 := t4.trans e2'; have B5 := Lib.hid (bstep BR.out.drew b5 BR.out.size); clear b5))
      go_wp2
      go_roundw
      case rel => exact ⟨k + 1, by omega, by go_num, B5.out⟩
      case measure => simp [intOf]; omega
    · go_wp2
      go_ret
      exact ⟨rfl, BR.out⟩
def QuietR (v : Value) (w : World) (e : Ending) (w' : World) : Prop := e = .returned v ∧ ∃ m, w' = w.drewN m
theorem same_recs (A B : Option Addr) (n c d : Nat) (l : List Rec) (w : World) (hA : Sl w w.heap.size A (recs l)) (hB : Sl w w.heap.size B (recs l)) (hn : l.length = n) (hm : n ≤ 9223372036854775807) :
    Calls Try.prog 34 #[.slice A n c, .slice B n d] w (QuietR (.bool true) w) := by
  have HA := Lib.hid hA; have HB := Lib.hid hB; have HN := Lib.hid hn; clear hA hB hn
  go_enter Try.func34, Try.ntmps34
  go_wp2
  go_loopw [5] (fun i wr => ∃ k m : Nat, k ≤ n ∧ i = .int .i64 k ∧ wr = w.drewN m) (fun i _ => n - (intOf i).toNat)
  case atStart => exact ⟨0, 0, by omega, rfl, rfl⟩
  case round =>
    obtain ⟨k, m, hk, rfl, rfl⟩ := hrel
    by_cases hlt : k < n
    · obtain ⟨g, hg⟩ := fget_of_lt (xs := l) (k := k) (by rw [HN.out]; exact hlt)
      obtain ⟨b, off, rfl, hbl, e1, e2⟩ := recs_elem HA.out hg
      obtain ⟨b', off', rfl, hbl', e1', e2'⟩ := recs_elem HB.out hg
      obtain ⟨g1, g2⟩ := g
      have hk0 : (0 : Int) ≤ (k : Int) := by omega
      have hk1 : (k : Int) < (n : Int) := by omega
      clear hg hbl hbl'
      go_wp2
      go_quiet (fail)
      go_wp2
      go_roundw
      case rel => exact ⟨k + 1, _, by omega, by go_num, rfl⟩
      case measure => simp [intOf]; omega
    · go_wp2
      go_ret
      exact ⟨rfl, m, rfl⟩
end Go.Proofs.Ytmphkogaclfjmaa
