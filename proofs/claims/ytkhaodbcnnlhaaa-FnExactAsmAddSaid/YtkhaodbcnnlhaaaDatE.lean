/-
  What the laws' helpers on parts and assemblies return: sizes, copies, comparisons. Conditions: those that each theorem bears.
-/
import Derived.Test.YtkhaodbcnnlhaaaDat
import Derived.Test.YtkhaodbcnnlhaaaSeenE
namespace Go.Proofs.Ytkhaodbcnnlhaaa
open Go.ChangeShapes Go.WideShapes Go.ChangeAt Go.RowKit
set_option linter.unusedVariables false
set_option linter.unusedSimpArgs false

theorem info_data : (Try.prog.info? 45).map (fun i => (i.zero, i.size, i.bytes)) = some (some (.agg #[.int .i64 0, .int .i64 0, .int .i64 0, .bool false, .bool false, .bool false, .string ⟨#[]⟩]), 7, 48) := by kernel_rfl
/-- Too much, or what is left: then the list is not too long. -/
def SzP (n : Nat) (w : World) (e : Ending) (w' : World) : Prop := ∃ m : Int, e = .returned (.int .i64 m) ∧ (m = -1 ∨ (0 ≤ m ∧ m ≤ 1048576 ∧ n ≤ 1048576)) ∧ Below w.heap.size w w'
theorem sz_data (t st sn : Int) (f l lo : Bool) (s : ByteArray) (L : Int) (w : World) (hL : 0 ≤ L ∧ L ≤ 1048576) (hs : s.size ≤ 9223372036854775807) :
    Calls Try.prog 16 #[.agg #[.int .i64 t, .int .i64 st, .int .i64 sn, .bool f, .bool l, .bool lo, .string s], .int .i64 L] w fun e w' => e = .returned (.int .i64 (if L < s.size then -1 else L - s.size)) ∧ Below w.heap.size w w' := by
  obtain ⟨h1, h2⟩ := hL
  by_cases h : L < s.size
  · rw [if_pos h]
    have h' : L - s.size < 0 := by omega
    go_enter Try.func16, Try.ntmps16
    go_wp2
    go_ret
    exact ⟨rfl, by go_grown⟩
  · rw [if_neg h]
    have h' : ¬ L - s.size < 0 := by omega
    go_enter Try.func16, Try.ntmps16
    go_wp2
    go_ret
    exact ⟨rfl, by go_grown⟩
set_option maxHeartbeats 800000 in
theorem sz_dats (A : Option Addr) (n c : Nat) (l : List Dat) (L0 : Int) (w : World) (hL : 0 ≤ L0 ∧ L0 ≤ 1048576) (hs : Sl w w.heap.size A (dats l)) (hn : l.length = n) (hm : n ≤ 9223372036854775807) (ht : Dats l) :
    Calls Try.prog 6 #[.slice A n c, .int .i64 L0] w (SzP n w) := by
  have HS := Lib.hid hs; have HN := Lib.hid hn; have HT := Lib.hid ht; clear hs hn ht
  obtain ⟨h1, h2⟩ := hL
  by_cases hbig : L0 < n
  · have h' : L0 - n < 0 := by omega
    go_enter Try.func6, Try.ntmps6
    go_wp2
    go_ret
    exact ⟨-1, rfl, .inl rfl, Below.refl _ _⟩
  · have h' : ¬ L0 - n < 0 := by omega
    go_enter Try.func6, Try.ntmps6
    go_wp2
    go_loopw [1, 5] (fun p i wr => ∃ (k : Nat) (L : Int), k ≤ n ∧ 0 ≤ L ∧ L ≤ 1048576 ∧ i = .int .i64 k ∧ p = .int .i64 L ∧ Below w.heap.size w wr) (fun _ i _ => n - (intOf i).toNat)
    case atStart => exact ⟨0, L0 - n, by omega, by omega, by omega, rfl, rfl, Below.refl _ _⟩
    case round =>
      obtain ⟨k, L, hk, hL1, hL2, rfl, rfl, hb⟩ := hrel
      have B := Lib.hid hb
      clear hb
      by_cases hlt : k < n
      · obtain ⟨r, hr⟩ := fget_of_lt (xs := l) (k := k) (by rw [HN.out]; exact hlt)
        obtain ⟨b, off, rfl, hbl, ⟨e0, e1, e2, e3, e4, e5, e6⟩⟩ := dats_elem ((HS.out.below B.out (Nat.le_refl _)).more B.out.size) hr
        have hts := (HT.out r (List.mem_of_getElem? hr)).2.2.2
        obtain ⟨g0, g1, g2, g3, g4, g5, g6⟩ := r
        change g6.size ≤ 9223372036854775807 at hts
        change World.cell? _ _ = some (.int .i64 g0) at e0
        change World.cell? _ _ = some (.int .i64 g1) at e1
        change World.cell? _ _ = some (.int .i64 g2) at e2
        change World.cell? _ _ = some (.bool g3) at e3
        change World.cell? _ _ = some (.bool g4) at e4
        change World.cell? _ _ = some (.bool g5) at e5
        change World.cell? _ _ = some (.string g6) at e6
        clear hr
        by_cases hbg : L < g6.size
        · go_wp2_with fail
          refine (sz_data _ _ _ _ _ _ _ _ _ ⟨hL1, hL2⟩ hts).mono ?_
          rw [if_pos (by omega)]
          rintro e w2 ⟨rfl, b2⟩
          go_wp2
          go_ret
          exact ⟨-1, rfl, .inl rfl, bstep B.out b2 B.out.size⟩
        · go_wp2_with fail
          refine (sz_data _ _ _ _ _ _ _ _ _ ⟨hL1, hL2⟩ hts).mono ?_
          rw [if_neg (by omega)]
          rintro e w2 ⟨rfl, b2⟩
          have B2 := Lib.hid (bstep B.out b2 B.out.size)
          clear b2
          have h3 : ¬ L - g6.size < 0 := by omega
          go_wp2
          go_roundw
          case rel => exact ⟨k + 1, L - g6.size, by omega, by omega, by omega, by go_num, rfl, B2.out⟩
          case measure => simp [intOf]; omega
      · go_wp2
        go_ret
        exact ⟨L, rfl, .inr ⟨by omega, by omega, by omega⟩, B.out⟩
theorem to_data (t st sn : Int) (f l lo : Bool) (s : ByteArray) (w : World) : Calls Try.prog 19 #[.agg #[.int .i64 t, .int .i64 st, .int .i64 sn, .bool f, .bool l, .bool lo, .string s]] w fun e w' => e = .returned (.agg #[.int .i64 t, .int .i64 st, .int .i64 sn, .bool f, .bool l, .bool lo, .string s]) ∧ Below w.heap.size w w' := by
  go_enter Try.func19, Try.ntmps19
  go_wp2
  exact bodyPost_ret (v := .agg #[.int .i64 t, .int .i64 st, .int .i64 sn, .bool f, .bool l, .bool lo, .string s]) (by simp [results, Try.results19, go_sem]) rfl ⟨rfl, by go_grown⟩
def MadeDats (l : List Dat) (n : Nat) (w : World) (e : Ending) (w' : World) : Prop :=
  ∃ A c, e = .returned (.slice A n c) ∧ Own w' w.heap.size 45 7 A n c (dats l) ∧ Below w.heap.size w w'
set_option maxHeartbeats 800000 in
theorem to_dats (A : Option Addr) (n c : Nat) (l : List Dat) (w : World) (hs : Sl w w.heap.size A (dats l)) (hn : l.length = n) (hm : n ≤ 1048576) :
    Calls Try.prog 8 #[.slice A n c] w (MadeDats l n w) := by
  obtain ⟨i0, hi, hz0, hz1, hz2⟩ := info_parts info_data
  have HS := Lib.hid hs; have HN := Lib.hid hn; clear hs hn
  go_enter Try.func8, Try.ntmps8
  go_wp2_with (at_make; refine wpList_make_full _ rfl _ _ _ rfl w.heap.size 45 i0 (.agg #[.int .i64 0, .int .i64 0, .int .i64 0, .bool false, .bool false, .bool false, .string ⟨#[]⟩]) 7 Try.underlying26 hi hz0 hz1 .i64 .i64 (n : Int) (n : Int) n rfl rfl rfl rfl (by rw [hz2]; omega) (by unfold maxLen; omega) (Nat.le_refl _) ?_; intro w1 hown hg; have O := Lib.hid hown; have G := Lib.hid hg; clear hown hg)
  go_loopw [4] (fun i wr => ∃ (k : Nat) (ys : List Dat), k ≤ n ∧ i = .int .i64 k ∧ Own wr w.heap.size 45 7 (some ⟨w.heap.size, 0, none⟩) n n (dats ys) ∧ Hid (ys.length = n) ∧ Hid (ys.take k = l.take k) ∧ Below w.heap.size w wr) (fun i _ => n - (intOf i).toNat)
  case atStart =>
    have h := O.out
    refine ⟨0, List.replicate n ⟨0, 0, 0, false, false, false, ⟨#[]⟩⟩, by omega, rfl, ?_, Lib.hid (by simp), Lib.hid rfl, (gb_to_below G.out)⟩
    have e : (madeCells (Value.agg #[.int .i64 0, .int .i64 0, .int .i64 0, .bool false, .bool false, .bool false, .string ⟨#[]⟩]).cells (n * 7)).toList = dats (List.replicate n ⟨0, 0, 0, false, false, false, ⟨#[]⟩⟩) := made_flat datC_len (by omega) ⟨0, 0, 0, false, false, false, ⟨#[]⟩⟩ _ rfl n
    rw [e] at h
    exact h
  case round =>
    obtain ⟨k, ys, hk, rfl, ho, hyl, hyt, hb⟩ := hrel
    have HO := Lib.hid ho
    have HB := Lib.hid hb
    clear ho hb
    by_cases hlt : k < n
    · obtain ⟨g, hg⟩ := fget_of_lt (xs := l) (k := k) (by rw [HN.out]; exact hlt)
      obtain ⟨b, off, rfl, hbl, ⟨e0, e1, e2, e3, e4, e5, e6⟩⟩ := dats_elem ((HS.out.below HB.out (Nat.le_refl _)).more HB.out.size) hg
      have HG := Lib.hid hg
      obtain ⟨g0, g1, g2, g3, g4, g5, g6⟩ := g
      change World.cell? _ _ = some (.int .i64 g0) at e0
      change World.cell? _ _ = some (.int .i64 g1) at e1
      change World.cell? _ _ = some (.int .i64 g2) at e2
      change World.cell? _ _ = some (.bool g3) at e3
      change World.cell? _ _ = some (.bool g4) at e4
      change World.cell? _ _ = some (.bool g5) at e5
      change World.cell? _ _ = some (.string g6) at e6
      clear hg
      go_wp2_with fail
      refine (to_data _ _ _ _ _ _ _ _).mono ?_
      rintro e w2 ⟨rfl, b2⟩
      have HO2 := Lib.hid (HO.out.below b2 (Nat.le_refl _))
      have HB2 := Lib.hid (bstep HB.out b2 HB.out.size)
      have hkl : k < ys.length := by rw [hyl.out]; exact hlt
      obtain ⟨y, hy⟩ := fget_of_lt hkl
      have f0 := HO2.out.fcell (k * 7) (flat_at datC_len hy (j := 0) rfl)
      have z0 := HO2.out.ffroz (k * 7)
      have f1 := HO2.out.fcell (k * 7 + 1) (flat_at datC_len hy (j := 1) rfl)
      have z1 := HO2.out.ffroz (k * 7 + 1)
      have f2 := HO2.out.fcell (k * 7 + 2) (flat_at datC_len hy (j := 2) rfl)
      have z2 := HO2.out.ffroz (k * 7 + 2)
      have f3 := HO2.out.fcell (k * 7 + 3) (flat_at datC_len hy (j := 3) rfl)
      have z3 := HO2.out.ffroz (k * 7 + 3)
      have f4 := HO2.out.fcell (k * 7 + 4) (flat_at datC_len hy (j := 4) rfl)
      have z4 := HO2.out.ffroz (k * 7 + 4)
      have f5 := HO2.out.fcell (k * 7 + 5) (flat_at datC_len hy (j := 5) rfl)
      have z5 := HO2.out.ffroz (k * 7 + 5)
      have f6 := HO2.out.fcell (k * 7 + 6) (flat_at datC_len hy (j := 6) rfl)
      have z6 := HO2.out.ffroz (k * 7 + 6)
      clear b2 hy
      go_wp2
      go_roundw
      case rel =>
        refine ⟨k + 1, ys.set k ⟨g0, g1, g2, g3, g4, g5, g6⟩, by omega, by go_num, ?_, Lib.hid (by rw [List.length_set]; exact hyl.out), Lib.hid ?_, (((((((HB2.out.setCell (Nat.le_refl _) _).setCell (Nat.le_refl _) _).setCell (Nat.le_refl _) _).setCell (Nat.le_refl _) _).setCell (Nat.le_refl _) _).setCell (Nat.le_refl _) _).setCell (Nat.le_refl _) _)⟩
        · unfold dats
          rw [← flat_setMany datC_len ys k ⟨g0, g1, g2, g3, g4, g5, g6⟩ hkl]
          exact (((((((HO2.out.fput (k * 7) _).fput (k * 7 + 1) _).fput (k * 7 + 2) _).fput (k * 7 + 3) _).fput (k * 7 + 4) _).fput (k * 7 + 5) _).fput (k * 7 + 6) _)
        · rw [ftake_set ys k _ hkl, hyt.out, ftake_succ HG.out]
      case measure => simp [intOf]; omega
    · go_wp2
      go_ret
      have h1 : ys = l := ftake_all hyt.out hyl.out HN.out (by omega)
      rw [h1] at HO
      exact ⟨_, _, rfl, HO.out, HB.out⟩
set_option maxHeartbeats 1600000 in
theorem eq_data (t st sn : Int) (f l lo : Bool) (s : ByteArray) (w : World) : Calls Try.prog 33 #[.agg #[.int .i64 t, .int .i64 st, .int .i64 sn, .bool f, .bool l, .bool lo, .string s], .agg #[.int .i64 t, .int .i64 st, .int .i64 sn, .bool f, .bool l, .bool lo, .string s]] w fun e w' => e = .returned (.bool true) ∧ Below w.heap.size w w' := by
  cases f <;> cases l <;> cases lo
  all_goals
    go_enter Try.func33, Try.ntmps33
    go_wp2
    go_ret
    exact ⟨rfl, by go_grown⟩
set_option maxHeartbeats 1600000 in
theorem eq_dats (A B : Option Addr) (n c d : Nat) (l : List Dat) (w : World) (hA : Sl w w.heap.size A (dats l)) (hB : Sl w w.heap.size B (dats l)) (hn : l.length = n) (hm : n ≤ 9223372036854775807) :
    Calls Try.prog 11 #[.slice A n c, .slice B n d] w fun e w' => e = .returned (.bool true) ∧ Below w.heap.size w w' := by
  have HA := Lib.hid hA; have HB := Lib.hid hB; have HN := Lib.hid hn; clear hA hB hn
  go_enter Try.func11, Try.ntmps11
  go_wp2
  go_loopw [5] (fun i wr => ∃ k : Nat, k ≤ n ∧ i = .int .i64 k ∧ Below w.heap.size w wr) (fun i _ => n - (intOf i).toNat)
  case atStart => exact ⟨0, by omega, rfl, Below.refl _ _⟩
  case round =>
    obtain ⟨k, hk, rfl, hb⟩ := hrel
    have BR := Lib.hid hb
    clear hb
    by_cases hlt : k < n
    · obtain ⟨g, hg⟩ := fget_of_lt (xs := l) (k := k) (by rw [HN.out]; exact hlt)
      obtain ⟨b, off, rfl, hbl, ⟨e0, e1, e2, e3, e4, e5, e6⟩⟩ := dats_elem ((HA.out.below BR.out (Nat.le_refl _)).more BR.out.size) hg
      obtain ⟨b', off', rfl, hbl', ⟨f0, f1, f2, f3, f4, f5, f6⟩⟩ := dats_elem ((HB.out.below BR.out (Nat.le_refl _)).more BR.out.size) hg
      obtain ⟨g0, g1, g2, g3, g4, g5, g6⟩ := g
      change World.cell? _ _ = some (.int .i64 g0) at e0
      change World.cell? _ _ = some (.int .i64 g1) at e1
      change World.cell? _ _ = some (.int .i64 g2) at e2
      change World.cell? _ _ = some (.bool g3) at e3
      change World.cell? _ _ = some (.bool g4) at e4
      change World.cell? _ _ = some (.bool g5) at e5
      change World.cell? _ _ = some (.string g6) at e6
      change World.cell? _ _ = some (.int .i64 g0) at f0
      change World.cell? _ _ = some (.int .i64 g1) at f1
      change World.cell? _ _ = some (.int .i64 g2) at f2
      change World.cell? _ _ = some (.bool g3) at f3
      change World.cell? _ _ = some (.bool g4) at f4
      change World.cell? _ _ = some (.bool g5) at f5
      change World.cell? _ _ = some (.string g6) at f6
      clear hg
      have hk0 : (0 : Int) ≤ (k : Int) := by omega
      have hk1 : (k : Int) < (n : Int) := by omega
      go_wp2
      go_region_held3 (fun w' => w'.cell? ⟨b, off + k * 7, none⟩ = some (.int .i64 g0) ∧ w'.cell? ⟨b, off + k * 7 + 1, none⟩ = some (.int .i64 g1) ∧ w'.cell? ⟨b, off + k * 7 + 2, none⟩ = some (.int .i64 g2) ∧ w'.cell? ⟨b, off + k * 7 + 3, none⟩ = some (.bool g3) ∧ w'.cell? ⟨b, off + k * 7 + 4, none⟩ = some (.bool g4) ∧ w'.cell? ⟨b, off + k * 7 + 5, none⟩ = some (.bool g5) ∧ w'.cell? ⟨b, off + k * 7 + 6, none⟩ = some (.string g6) ∧ w'.cell? ⟨b', off' + k * 7, none⟩ = some (.int .i64 g0) ∧ w'.cell? ⟨b', off' + k * 7 + 1, none⟩ = some (.int .i64 g1) ∧ w'.cell? ⟨b', off' + k * 7 + 2, none⟩ = some (.int .i64 g2) ∧ w'.cell? ⟨b', off' + k * 7 + 3, none⟩ = some (.bool g3) ∧ w'.cell? ⟨b', off' + k * 7 + 4, none⟩ = some (.bool g4) ∧ w'.cell? ⟨b', off' + k * 7 + 5, none⟩ = some (.bool g5) ∧ w'.cell? ⟨b', off' + k * 7 + 6, none⟩ = some (.string g6)) (first | exact ⟨e0, e1, e2, e3, e4, e5, e6, f0, f1, f2, f3, f4, f5, f6⟩ | exact ⟨t0, t1, t2, t3, t4, t5, t6, u0, u1, u2, u3, u4, u5, u6⟩ | go_keep)
        (first | (go_at_call 33; refine (eq_data _ _ _ _ _ _ _ _).mono ?_; rintro e w5 ⟨rfl, b5⟩; have t0 := ((bcell b5).1 b (off + k * 7) hbl).trans e0; have t1 := ((bcell b5).1 b (off + k * 7 + 1) hbl).trans e1; have t2 := ((bcell b5).1 b (off + k * 7 + 2) hbl).trans e2; have t3 := ((bcell b5).1 b (off + k * 7 + 3) hbl).trans e3; have t4 := ((bcell b5).1 b (off + k * 7 + 4) hbl).trans e4; have t5 := ((bcell b5).1 b (off + k * 7 + 5) hbl).trans e5; have t6 := ((bcell b5).1 b (off + k * 7 + 6) hbl).trans e6; have u0 := ((bcell b5).1 b' (off' + k * 7) hbl').trans f0; have u1 := ((bcell b5).1 b' (off' + k * 7 + 1) hbl').trans f1; have u2 := ((bcell b5).1 b' (off' + k * 7 + 2) hbl').trans f2; have u3 := ((bcell b5).1 b' (off' + k * 7 + 3) hbl').trans f3; have u4 := ((bcell b5).1 b' (off' + k * 7 + 4) hbl').trans f4; have u5 := ((bcell b5).1 b' (off' + k * 7 + 5) hbl').trans f5; have u6 := ((bcell b5).1 b' (off' + k * 7 + 6) hbl').trans f6; have B5 := Lib.hid (bstep BR.out.drew b5 BR.out.size); clear b5))
      go_wp2
      go_roundw
      case rel => exact ⟨k + 1, by omega, by go_num, B5.out⟩
      case measure => simp [intOf]; omega
    · go_wp2
      go_ret
      exact ⟨rfl, BR.out⟩
end Go.Proofs.Ytkhaodbcnnlhaaa
