/-
  Comparisons and marks of packets: what the laws' helpers return. Conditions: those that each theorem bears.
-/
import Derived.Test.YtlemdagiamnphaaPkG0
import Derived.Test.YtlemdagiamnphaaCapM
import Derived.Test.YtlemdagiamnphaaPkV
namespace Go.Proofs.Ytlemdagiamnphaa
open Go.ChangeShapes Go.WideShapes Go.ChangeAt Go.RowKit
set_option linter.unusedVariables false
set_option linter.unusedSimpArgs false

theorem eq_chk (k f : Int) (s : ByteArray) (w : World) : Calls Try.prog 53 #[.agg #[.int .i64 k, .int .i64 f, .string s], .agg #[.int .i64 k, .int .i64 f, .string s]] w fun e w' => e = .returned (.bool true) ∧ Below w.heap.size w w' := by
  go_enter Try.func53, Try.ntmps53
  go_wp2
  go_ret
  exact ⟨rfl, by go_grown⟩
theorem eq_chks (A B : Option Addr) (n c d : Nat) (l : List Chk) (w : World) (hA : Sl w w.heap.size A (chks l)) (hB : Sl w w.heap.size B (chks l)) (hn : l.length = n) (hm : n ≤ 9223372036854775807) :
    Calls Try.prog 38 #[.slice A n c, .slice B n d] w fun e w' => e = .returned (.bool true) ∧ Below w.heap.size w w' := by
  have HA := Lib.hid hA; have HB := Lib.hid hB; have HN := Lib.hid hn; clear hA hB hn
  go_enter Try.func38, Try.ntmps38
  go_wp2
  go_loopw [5] (fun i wr => ∃ k : Nat, k ≤ n ∧ i = .int .i64 k ∧ Below w.heap.size w wr) (fun i _ => n - (intOf i).toNat)
  case atStart => exact ⟨0, by omega, rfl, Below.refl _ _⟩
  case round =>
    obtain ⟨k, hk, rfl, hb⟩ := hrel
    have BR := Lib.hid hb
    clear hb
    by_cases hlt : k < n
    · obtain ⟨g, hg⟩ := fget_of_lt (xs := l) (k := k) (by rw [HN.out]; exact hlt)
      obtain ⟨b, off, rfl, hbl, e1, e2, e3⟩ := chks_elem ((HA.out.below BR.out (Nat.le_refl _)).more BR.out.size) hg
      obtain ⟨b', off', rfl, hbl', e1', e2', e3'⟩ := chks_elem ((HB.out.below BR.out (Nat.le_refl _)).more BR.out.size) hg
      obtain ⟨g1, g2, g3⟩ := g
      change wr.cell? ⟨b, off + k * 3, none⟩ = some (.int .i64 g1) at e1
      change wr.cell? ⟨b, off + k * 3 + 1, none⟩ = some (.int .i64 g2) at e2
      change wr.cell? ⟨b, off + k * 3 + 2, none⟩ = some (.string g3) at e3
      change wr.cell? ⟨b', off' + k * 3, none⟩ = some (.int .i64 g1) at e1'
      change wr.cell? ⟨b', off' + k * 3 + 1, none⟩ = some (.int .i64 g2) at e2'
      change wr.cell? ⟨b', off' + k * 3 + 2, none⟩ = some (.string g3) at e3'
      clear hg
      have hk0 : (0 : Int) ≤ (k : Int) := by omega
      have hk1 : (k : Int) < (n : Int) := by omega
      go_wp2
      go_region_held3 (fun w' => w'.cell? ⟨b, off + k * 3, none⟩ = some (.int .i64 g1) ∧ w'.cell? ⟨b, off + k * 3 + 1, none⟩ = some (.int .i64 g2) ∧ w'.cell? ⟨b, off + k * 3 + 2, none⟩ = some (.string g3) ∧ w'.cell? ⟨b', off' + k * 3, none⟩ = some (.int .i64 g1) ∧ w'.cell? ⟨b', off' + k * 3 + 1, none⟩ = some (.int .i64 g2) ∧ w'.cell? ⟨b', off' + k * 3 + 2, none⟩ = some (.string g3)) (first | exact ⟨e1, e2, e3, e1', e2', e3'⟩ | exact ⟨t1, t2, t3, t4, t5, t6⟩ | go_keep)
        (first | (go_at_call 53; refine (eq_chk _ _ _ _).mono ?_; rintro e w5 ⟨rfl, b5⟩; have t1 := ((bcell b5).1 b (off + k * 3) hbl).trans e1; have t2 := ((bcell b5).1 b (off + k * 3 + 1) hbl).trans e2; have t3 := ((bcell b5).1 b (off + k * 3 + 2) hbl).trans e3; have t4 := ((bcell b5).1 b' (off' + k * 3) hbl').trans e1'; have t5 := ((bcell b5).1 b' (off' + k * 3 + 1) hbl').trans e2'; have t6 := ((bcell b5).1 b' (off' + k * 3 + 2) hbl').trans e3'; have B5 := Lib.hid (bstep BR.out.drew b5 BR.out.size); clear b5))
      go_wp2
      go_roundw
      case rel => exact ⟨k + 1, by omega, by go_num, B5.out⟩
      case measure => simp [intOf]; omega
    · go_wp2
      go_ret
      exact ⟨rfl, BR.out⟩
set_option maxHeartbeats 800000 in
theorem eq_pack (f t g : Int) (A B : Option Addr) (n c d : Nat) (l : List Chk) (w : World) (hA : Sl w w.heap.size A (chks l)) (hB : Sl w w.heap.size B (chks l)) (hn : l.length = n) (hm : n ≤ 9223372036854775807) :
    Calls Try.prog 15 #[packV f t g A n c, packV f t g B n d] w fun e w' => e = .returned (.bool true) ∧ Below w.heap.size w w' := by
  have HA := Lib.hid hA; have HB := Lib.hid hB; have HN := Lib.hid hn; clear hA hB hn
  go_enter Try.func15, Try.ntmps15
  go_wp2_with fail
  refine (eq_chks _ _ _ _ _ l _ (((HA.out.alloc (Nat.le_refl _) _).alloc (by simp) _).more (by simp; omega)) (((HB.out.alloc (Nat.le_refl _) _).alloc (by simp) _).more (by simp; omega)) HN.out hm).mono ?_
  rintro e w1 ⟨rfl, b1'⟩
  obtain ⟨q1, q2, z1, b1⟩ := boxed2 b1'
  go_wp2
  go_ret
  exact ⟨rfl, b1⟩
theorem same_chks (A B : Option Addr) (n c d : Nat) (l : List Chk) (w : World) (hA : Sl w w.heap.size A (chks l)) (hB : Sl w w.heap.size B (chks l)) (hn : l.length = n) (hm : n ≤ 9223372036854775807) :
    Calls Try.prog 34 #[.slice A n c, .slice B n d] w (QuietR (.bool true) w) := by
  have HA := Lib.hid hA; have HB := Lib.hid hB; have HN := Lib.hid hn; clear hA hB hn
  go_enter Try.func34, Try.ntmps34
  go_wp2
  go_loopw [5] (fun i wr => ∃ k m : Nat, k ≤ n ∧ i = .int .i64 k ∧ wr = w.drewN m) (fun i _ => n - (intOf i).toNat)
  case atStart => exact ⟨0, 0, by omega, rfl, rfl⟩
  case round =>
    obtain ⟨k, m, hk, rfl, rfl⟩ := hrel
    by_cases hlt : k < n
    · obtain ⟨g, hg⟩ := fget_of_lt (xs := l) (k := k) (by rw [HN.out]; exact hlt)
      obtain ⟨b, off, rfl, hbl, e1, e2, e3⟩ := chks_elem HA.out hg
      obtain ⟨b', off', rfl, hbl', e1', e2', e3'⟩ := chks_elem HB.out hg
      obtain ⟨g1, g2, g3⟩ := g
      have hk0 : (0 : Int) ≤ (k : Int) := by omega
      have hk1 : (k : Int) < (n : Int) := by omega
      clear hg hbl hbl'
      go_wp2
      go_quiet (fail)
      go_wp2
      go_roundw
      case rel => exact ⟨k + 1, _, by omega, by go_num, rfl⟩
      case measure => simp [intOf]; omega
    · go_wp2
      go_ret
      exact ⟨rfl, m, rfl⟩
set_option maxHeartbeats 800000 in
theorem same_pack (f t g : Int) (A B : Option Addr) (n c d : Nat) (l : List Chk) (w : World) (hA : Sl w w.heap.size A (chks l)) (hB : Sl w w.heap.size B (chks l)) (hn : l.length = n) (hm : n ≤ 9223372036854775807) :
    Calls Try.prog 13 #[packV f t g A n c, packV f t g B n d] w fun e w' => e = .returned (.bool true) ∧ Below w.heap.size w w' := by
  have HA := Lib.hid hA; have HB := Lib.hid hB; have HN := Lib.hid hn; clear hA hB hn
  go_enter Try.func13, Try.ntmps13
  go_wp2_with fail
  refine (same_chks _ _ _ _ _ l _ (((HA.out.alloc (Nat.le_refl _) _).alloc (by simp) _).more (by simp; omega)) (((HB.out.alloc (Nat.le_refl _) _).alloc (by simp) _).more (by simp; omega)) HN.out hm).mono ?_
  rintro e w1 ⟨rfl, m, rfl⟩
  go_wp2
  go_ret
  exact ⟨rfl, below_drewN (((Below.refl _ w).alloc (Nat.le_refl _) _).alloc (by simp) _) _⟩
def pmarks (k : Nat) (n : Nat) : List Chk := (List.range n).map fun i => (((k + 3 * i : Nat) : Int), ((k + 3 * i + 1 : Nat) : Int), mtext (k + 3 * i + 2))
theorem pmarks_len (k n : Nat) : (pmarks k n).length = n := by simp [pmarks]
theorem pmarks_get (k n j : Nat) (h : j < n) : (pmarks k n)[j]? = some (((k + 3 * j : Nat) : Int), ((k + 3 * j + 1 : Nat) : Int), mtext (k + 3 * j + 2)) := by
  unfold pmarks
  rw [List.getElem?_map, List.getElem?_range h]
  rfl
def MarkPPost (A : Option Addr) (n c : Nat) (k : Nat) (base : Nat) (w : World) (e : Ending) (w' : World) : Prop :=
  e = .returned (.int .i64 ((k + 3 * n : Nat) : Int)) ∧ Own w' base 46 3 A n c (chks (pmarks k n)) ∧ ∃ row, w.grownBy w' row ∧ ∀ g, row = some g → ∃ a, A = some a ∧ a.block = g
set_option maxHeartbeats 1600000 in
theorem mark_chks (A : Option Addr) (n c : Nat) (k : Nat) (base : Nat) (l : List Chk) (w : World) (ho : Own w base 46 3 A n c (chks l)) (hk : k ≤ 100000000) (hm : n ≤ 1048576) :
    Calls Try.prog 39 #[.slice A n c, .int .i64 k] w (MarkPPost A n c k base w) := by
  have HL := Lib.hid (by have := ho.len; rw [chks_len] at this; omega : l.length = n)
  have HO := Lib.hid ho; clear ho
  by_cases hn : n = 0
  · subst hn
    go_enter Try.func39, Try.ntmps39
    go_wp2
    go_rounds 1
    go_ret
    have hz : l = [] := List.eq_nil_of_length_eq_zero HL.out
    subst hz
    exact ⟨rfl, HO.out, none, World.grownBy.refl w _, fun _ e => by cases e⟩
  · obtain ⟨g, rfl⟩ := HO.out.some_of hn
    go_enter Try.func39, Try.ntmps39
    go_wp2
    go_loopw [1, 5] (fun kv i wr => ∃ (j : Nat) (ys : List Chk), j ≤ n ∧ i = .int .i64 j ∧ kv = .int .i64 ((k + 3 * j : Nat) : Int) ∧ Own wr base 46 3 (some ⟨g, 0, none⟩) n c (chks ys) ∧ Hid (ys.length = n) ∧ Hid (ys.take j = (pmarks k n).take j) ∧ w.grownBy wr (some g)) (fun _ i _ => n - (intOf i).toNat)
    case atStart => exact ⟨0, l, by omega, rfl, rfl, HO.out, HL, Lib.hid rfl, World.grownBy.refl w _⟩
    case round =>
      obtain ⟨j, ys, hj, rfl, rfl, ho, hyl, hyt, hg⟩ := hrel
      have HO2 := Lib.hid ho
      have HG := Lib.hid hg
      clear ho hg
      obtain ⟨K, hK⟩ : ∃ K, K = k + 3 * j := ⟨_, rfl⟩
      have hKb : K ≤ 400000000 - 10 := by omega
      rw [← hK]
      have HK := Lib.hid hK
      clear hK
      by_cases hlt : j < n
      · have hjl : j < ys.length := by rw [hyl.out]; exact hlt
        obtain ⟨y, hy⟩ := fget_of_lt hjl
        have f1 := HO2.out.fcell (j * 3) (flat_at chkC_len hy (j := 0) rfl)
        have f2 := HO2.out.fcell (j * 3 + 1) (flat_at chkC_len hy (j := 1) rfl)
        have f3 := HO2.out.ffroz (j * 3)
        have f4 := HO2.out.ffroz (j * 3 + 1)
        have w1 := IntWalk.i64_in ((K : Int) + 1) (by omega)
        have w2 := IntWalk.i64_in ((K : Int) + 1 + 1) (by omega)
        have w2b := IntWalk.i64_in ((K : Int) + 2) (by omega)
        have MT := Lib.hid (fun w => (by have := mark_text (K + 2) (by omega) (by omega) w; simpa using this : Calls Try.prog 54 #[.int .i64 ((K : Int) + 2)] w fun e w' => e = .returned (.string (mtext (K + 2))) ∧ Below w.heap.size w w'))
        have HX := Lib.hid ((HO2.out.fput (j * 3) (.int .i64 (K : Int))).fput (j * 3 + 1) (.int .i64 ((K : Int) + 1)))
        have HXG := Lib.hid (gb_setCell (gb_setCell HG.out (p := ⟨g, j * 3, none⟩) (.inl rfl) (.int .i64 (K : Int))) (p := ⟨g, j * 3 + 1, none⟩) (.inl rfl) (.int .i64 ((K : Int) + 1)))
        obtain ⟨y1, y2, y3⟩ := y
        have hyc : (chks ys)[j * 3 + 2]? = some (.string y3) := flat_at chkC_len hy (j := 2) rfl
        clear hy
        go_wp2_with fail
        refine (MT.out _).mono ?_
        rintro e w3 ⟨rfl, b3⟩
        have HO3 := Lib.hid (HX.out.below b3 (Nat.le_refl _))
        have HG3 := Lib.hid (gb_below HXG.out b3 HXG.out.size)
        have f5 := HO3.out.fcell (j * 3 + 2) (u := .string y3) (by rw [List.getElem?_set_ne (by omega), List.getElem?_set_ne (by omega)]; exact hyc)
        have f6 := HO3.out.ffroz (j * 3 + 2)
        have w4 := IntWalk.i64_in ((K : Int) + 2 + 1) (by omega)
        clear b3 f1 f2 f3 f4 MT
        go_wp2
        go_roundw
        case rel =>
          refine ⟨j + 1, ys.set j ((K : Int), ((K + 1 : Nat) : Int), mtext (K + 2)), by omega, by go_num, by rw [show k + 3 * (j + 1) = K + 3 from by have := HK.out; omega]; go_num, ?_, Lib.hid (by rw [List.length_set]; exact hyl.out), Lib.hid ?_, gb_setCell HG3.out (.inl rfl) _⟩
          · unfold chks
            rw [← flat_setMany chkC_len ys j _ hjl]
            exact HO3.out.fput (j * 3 + 2) _
          · rw [ftake_set ys j _ hjl, hyt.out, ftake_succ (pmarks_get k n j hlt), HK.out]
        case measure => simp [intOf]; omega
      · go_wp2
        go_ret
        have h1 : ys = pmarks k n := ftake_all hyt.out hyl.out (pmarks_len k n) (by omega)
        rw [h1] at HO2
        exact ⟨ret_int (by have := HK.out; omega), HO2.out, some g, HG.out, fun g' e => ⟨_, rfl, by injection e⟩⟩
set_option maxHeartbeats 1600000 in
theorem held_chks (A : Option Addr) (n c : Nat) (k : Nat) (w : World) (hA : Sl w w.heap.size A (chks (pmarks k n))) (hk : k ≤ 100000000) (hm : n ≤ 1048576) :
    Calls Try.prog 40 #[.slice A n c, .int .i64 k] w fun e w' => e = .returned (.int .i64 ((k + 3 * n : Nat) : Int)) ∧ Below w.heap.size w w' := by
  have HA := Lib.hid hA; clear hA
  go_enter Try.func40, Try.ntmps40
  go_wp2
  go_loopw [1, 5] (fun kv i wr => ∃ j : Nat, j ≤ n ∧ i = .int .i64 j ∧ kv = .int .i64 ((k + 3 * j : Nat) : Int) ∧ Below w.heap.size w wr) (fun _ i _ => n - (intOf i).toNat)
  case atStart => exact ⟨0, by omega, rfl, rfl, Below.refl _ _⟩
  case round =>
    obtain ⟨j, hj, rfl, rfl, hb⟩ := hrel
    have B := Lib.hid hb
    clear hb
    by_cases hlt : j < n
    · obtain ⟨b, off, rfl, hb, e1, e2, e3⟩ := chks_elem ((HA.out.below B.out (Nat.le_refl _)).more B.out.size) (pmarks_get k n j hlt)
      obtain ⟨K, hK⟩ : ∃ K, K = k + 3 * j := ⟨_, rfl⟩
      have hKb : K ≤ 400000000 - 10 := by omega
      rw [← hK] at e1 e2 e3 ⊢
      have HK := Lib.hid hK
      clear hK
      have w1 := IntWalk.i64_in ((K : Int) + 1) (by omega)
      have w2 := IntWalk.i64_in ((K : Int) + 1 + 1) (by omega)
      have w2b := IntWalk.i64_in ((K : Int) + 2) (by omega)
      have w3 := IntWalk.i64_in ((K : Int) + 2 + 1) (by omega)
      have MT := Lib.hid (fun w => (by have := mark_text (K + 2) (by omega) (by omega) w; simpa using this : Calls Try.prog 54 #[.int .i64 ((K : Int) + 2)] w fun e w' => e = .returned (.string (mtext (K + 2))) ∧ Below w.heap.size w w'))
      generalize mtext (K + 2) = M at e3 MT
      have e2' : wr.cell? ⟨b, off + j * 3 + 1, none⟩ = some (.int .i64 ((K : Int) + 1)) := by simpa using e2
      clear e2
      go_wp2
      go_region_held3 (fun w' => w'.cell? ⟨b, off + j * 3 + 2, none⟩ = some (.string M)) (first | exact e3 | exact t2 | go_keep)
        (first | (go_at_call 54; refine (MT.out _).mono ?_; rintro e w5 ⟨rfl, b5⟩; have t2 := (bcell b5).1 b (off + j * 3 + 2) hb; have t2 := t2.trans e3; have B5 := Lib.hid (bstep B.out.drew b5 B.out.size); clear b5))
      go_wp2
      go_roundw
      case rel => exact ⟨j + 1, by omega, by go_num, by rw [show k + 3 * (j + 1) = K + 3 from by have := HK.out; omega]; go_num, B5.out⟩
      case measure => simp [intOf]; omega
    · go_wp2
      go_ret
      exact ⟨ret_int (by omega), B.out⟩
set_option maxHeartbeats 800000 in
theorem mark_pack (f t g : Int) (A : Option Addr) (n c : Nat) (k : Nat) (base : Nat) (l : List Chk) (w : World) (ho : Own w base 46 3 A n c (chks l)) (hk : k ≤ 100000000) (hm : n ≤ 1048576) :
    Calls Try.prog 16 #[packV f t g A n c, .int .i64 k] w (MarkPPost A n c k base w) := by
  have HO := Lib.hid ho; clear ho
  go_enter Try.func16, Try.ntmps16
  go_wp2_with fail
  refine (mark_chks _ _ _ k base l _ (HO.out.alloc _) hk hm).mono ?_
  rintro e w1 ⟨rfl, o1, row, g1, r1⟩
  go_wp2
  go_ret
  exact ⟨rfl, o1, row, gb_trans (World.grownBy_alloc w _ row) g1 (fun g e => .inl e), r1⟩
set_option maxHeartbeats 800000 in
theorem held_pack (f t g : Int) (A : Option Addr) (n c : Nat) (k : Nat) (w : World) (hA : Sl w w.heap.size A (chks (pmarks k n))) (hk : k ≤ 100000000) (hm : n ≤ 1048576) :
    Calls Try.prog 17 #[packV f t g A n c, .int .i64 k] w fun e w' => e = .returned (.int .i64 ((k + 3 * n : Nat) : Int)) ∧ Below w.heap.size w w' := by
  have HA := Lib.hid hA; clear hA
  have hk2 : ¬ (((k + 3 * n : Nat) : Int) < 0) := by omega
  go_enter Try.func17, Try.ntmps17
  go_wp2_with fail
  refine (held_chks _ _ _ k _ ((HA.out.alloc (Nat.le_refl _) _).more (by simp)) hk hm).mono ?_
  rintro e w1 ⟨rfl, b1'⟩
  obtain ⟨q1, z1, b1⟩ := boxed b1'
  go_wp2
  go_ret
  exact ⟨rfl, b1⟩
end Go.Proofs.Ytlemdagiamnphaa
