/-
  What SackHas and SackPut return in the program. Conditions: the list can be read; for SackPut: the receipt is valid.
-/
import Derived.Test.YtglebkjhfofkcaaSackE
import Derived.Test.YtglebkjhfofkcaaByteW
namespace Go.Proofs.Ytglebkjhfofkcaa
open Go.ChangeShapes Go.WideShapes Go.ChangeAt Go.RowKit
set_option linter.unusedVariables false

theorem sl_new1 {w : World} {o : Obj} {cs : Array Value} {t : TypeId} {xs : List Value} (h : cs.toList = xs) : Sl ((w.alloc o).alloc (.cells cs t)) ((w.alloc o).alloc (.cells cs t)).heap.size (some ⟨w.heap.size + 1, 0, none⟩) xs := by
  have := sl_new (w := w.alloc o) (t := t) h
  simpa using this
theorem inB_cases {n a b : Int} (h : inB n a b = false) : n < a ∨ (a ≤ n ∧ b < n) := by
  have := inB_false h
  omega
set_option maxHeartbeats 800000 in
theorem isack_has {cum : Int} {gs : List (Int × Int)} {tsn : Int} {v : Bool} (hv : sackHasB cum gs tsn = v) (h1 : sackB cum gs = true) (h2 : okB tsn = true) (A : Option Addr) (n c : Nat) (w : World) (hs : Sl w w.heap.size A (gaps gs)) (hn : gs.length = n) (hm : n ≤ 9223372036854775807) :
    Calls Try.prog 55 #[.agg #[.int .i64 cum, .slice A n c], .int .i64 tsn] w fun e w' => e = .returned (.bool v) ∧ Below w.heap.size w w' := by
  have HS := Lib.hid hs; have HN := Lib.hid hn; clear hs hn
  obtain ⟨hc, _, hgB⟩ := sackB_true h1
  have HV := Lib.hid (by rw [← hv]; unfold sackHasB; rw [h1, h2]; rfl : v = (decide (sdiff cum tsn ≤ 0) || gapHas gs (sdiff cum tsn)))
  have H1 := Lib.hid h1
  clear hv h1 hgB
  by_cases h3 : sdiff cum tsn ≤ 0
  · go_enter Try.func55, Try.ntmps55
    go_wp2_with fail
    refine (isack_ok _ _ _ _ gs _ ((HS.out.alloc (Nat.le_refl _) _).more (by simp)) HN.out hm).mono ?_
    rw [H1.out]
    rintro e w1 ⟨rfl, b1'⟩
    obtain ⟨q1, z1, b1⟩ := boxed b1'
    have x0 := q1.get 0 rfl
    have x1 := q1.get 1 rfl
    have B1 := Lib.hid b1
    clear b1 b1' q1
    go_wp2_with (first | (go_at_call 59; refine (ok_any _ _).mono ?_; rintro e w' ⟨rfl, rfl⟩) | (go_at_call 46; refine (idiff_ok _ _ hc h2 _).mono ?_; rintro e w' ⟨rfl, rfl⟩))
    go_ret
    exact ⟨ret_bool (by rw [HV.out, decide_eq_true h3, Bool.true_or]), B1.out⟩
  · have HR := Lib.hid (HV.out.trans (by rw [decide_eq_false h3, Bool.false_or]) : v = gapHas gs (sdiff cum tsn))
    go_enter Try.func55, Try.ntmps55
    go_wp2_with fail
    refine (isack_ok _ _ _ _ gs _ ((HS.out.alloc (Nat.le_refl _) _).more (by simp)) HN.out hm).mono ?_
    rw [H1.out]
    rintro e w1 ⟨rfl, b1'⟩
    obtain ⟨q1, z1, b1⟩ := boxed b1'
    have x0 := q1.get 0 rfl
    have x1 := q1.get 1 rfl
    have B1 := Lib.hid b1
    clear b1 b1' q1
    go_wp2_with (first | (go_at_call 59; refine (ok_any _ _).mono ?_; rintro e w' ⟨rfl, rfl⟩) | (go_at_call 46; refine (idiff_ok _ _ hc h2 _).mono ?_; rintro e w' ⟨rfl, rfl⟩))
    have HS1 := Lib.hid ((HS.out.below B1.out (Nat.le_refl _)).more B1.out.size)
    clear HV HS x0 x1
    generalize sdiff cum tsn = m at HR h3 ⊢
    go_loopw [25] (fun i wr => ∃ (k : Nat), k ≤ n ∧ i = .int .i64 k ∧ Hid (gapHas gs m = gapHas (gs.drop k) m) ∧ Below w1.heap.size w1 wr) (fun i _ => n - (intOf i).toNat)
    case atStart => exact ⟨0, by omega, rfl, Lib.hid rfl, Below.refl _ _⟩
    case round =>
      obtain ⟨k, hk, rfl, ha, hb⟩ := hrel
      have BR := Lib.hid hb
      clear hb
      by_cases hlt : k < n
      · obtain ⟨g, hg⟩ := fget_of_lt (xs := gs) (k := k) (by rw [HN.out]; exact hlt)
        obtain ⟨b, off, rfl, hbl, e1, e2⟩ := gaps_elem ((HS1.out.below BR.out (Nat.le_refl _)).more BR.out.size) hg
        have HA := Lib.hid (ha.out.trans (gapHas_drop hg m))
        obtain ⟨g1, g2⟩ := g
        clear ha hg
        by_cases hin : inB m g1 g2 = true
        · obtain ⟨i1, i2⟩ := inB_true hin
          have HA2 := Lib.hid (HA.out.trans (by rw [hin, Bool.true_or]) : gapHas gs m = true)
          clear HA hin
          go_wp2
          go_ret
          exact ⟨ret_bool (by rw [HR.out, HA2.out]), bstep B1.out (BR.out.alloc BR.out.size _) B1.out.size⟩
        · have hin : inB m g1 g2 = false := by simpa using hin
          have HA2 := Lib.hid (HA.out.trans (by rw [hin, Bool.false_or]) : gapHas gs m = gapHas (gs.drop (k + 1)) m)
          rcases inB_cases hin with i1 | ⟨i1, i2⟩
          all_goals
            clear hin HA
            go_wp2
            go_roundw
            case rel => exact ⟨k + 1, by omega, by go_num, HA2, BR.out.alloc BR.out.size _⟩
            case measure => simp [intOf]; omega
      · have HA2 := Lib.hid (ha.out.trans (gapHas_end (by rw [HN.out]; omega) m))
        clear ha
        go_wp2
        go_ret
        exact ⟨ret_bool (by rw [HR.out, HA2.out]), bstep B1.out BR.out B1.out.size⟩
def PutP (w : World) (e : Ending) (w' : World) : Prop := ∃ v, e = .returned (.tuple #[v, .bool true]) ∧ (∃ s, v = .agg #[.int .i64 3, .int .i64 0, .string s]) ∧ Below w.heap.size w w'
set_option maxHeartbeats 1600000 in
set_option maxRecDepth 100000 in
theorem isack_put (cum : Int) (gs : List (Int × Int)) (h1 : sackB cum gs = true) (A : Option Addr) (n c : Nat) (w : World) (hs : Sl w w.heap.size A (gaps gs)) (hn : gs.length = n) :
    Calls Try.prog 56 #[.agg #[.int .i64 cum, .slice A n c]] w (PutP w) := by
  have HS := Lib.hid hs; have HN := Lib.hid hn; clear hs hn
  obtain ⟨hc, h8, hgB⟩ := sackB_true h1
  have hn8 : n ≤ 8 := by have := HN.out; omega
  obtain ⟨cu0, cu1⟩ := okB_true hc
  have HM := Lib.hid (gapsB_mem hgB)
  have H1 := Lib.hid h1
  clear h1 hgB hc h8
  go_enter Try.func56, Try.ntmps56
  go_wp2_with fail
  refine (isack_ok _ _ _ _ gs _ (((HS.out.alloc (Nat.le_refl _) _).alloc (by simp) _).more (by simp; omega)) HN.out (by omega)).mono ?_
  rw [H1.out]
  rintro e w1 ⟨rfl, b1'⟩
  obtain ⟨q1, q2, z1, b1⟩ := boxed2 b1'
  have x0 : w1.cell? ⟨w.heap.size, 0, none⟩ = some (.int .i64 cum) := q1.get 0 rfl
  have x1 : w1.cell? ⟨w.heap.size, 1, none⟩ = some (.slice A n c) := q1.get 1 rfl
  have Q1 := Lib.hid q1
  have Q2 := Lib.hid q2
  have B1 := Lib.hid b1
  clear b1 b1' q1 q2
  go_wp2_with fail
  refine (iwords _ 1 _ [cum] _ ((sl_new (by rfl)).more (by simp)) rfl (by omega) (fun z hz => by simp at hz; omega)).mono ?_
  rintro e w2 ⟨rfl, b2'⟩
  obtain ⟨q3, z2, b2⟩ := boxed b2'
  have Q12 := Lib.hid (Q1.out.below b2 Q1.out.lt)
  have Q22 := Lib.hid (Q2.out.below b2 Q2.out.lt)
  have x0 := Q12.out.get 0 rfl
  have x1 := Q12.out.get 1 rfl
  have B2 := Lib.hid (bstep B1.out b2 B1.out.size)
  have HS2 := Lib.hid ((HS.out.below B2.out (Nat.le_refl _)).more B2.out.size)
  have hsz : (mk (wordsOf [cum])).size ≤ 2 := by rw [mk_size, wordsOf_len]; simp
  clear b2 b2' q3 HS Q1 Q2
  generalize mk (wordsOf [cum]) = S0 at hsz ⊢
  go_wp2
  go_loopw [4, 18] (fun s i wr => ∃ (k : Nat) (S : ByteArray), k ≤ n ∧ i = .int .i64 k ∧ s = .string S ∧ S.size ≤ 2 + 4 * k ∧ Below w2.heap.size w2 wr) (fun _ i _ => n - (intOf i).toNat)
  case atStart => exact ⟨0, S0, by omega, rfl, rfl, by omega, Below.refl _ _⟩
  case round =>
    obtain ⟨k, S, hk, rfl, rfl, hS, hb⟩ := hrel
    have BR := Lib.hid hb
    have Q2r := Lib.hid (Q22.out.below hb Q22.out.lt)
    clear hb
    by_cases hlt : k < n
    · obtain ⟨g, hg⟩ := fget_of_lt (xs := gs) (k := k) (by rw [HN.out]; exact hlt)
      obtain ⟨m0, m1, m2⟩ := HM.out g (List.mem_of_getElem? hg)
      obtain ⟨b, off, rfl, hbl, e1, e2⟩ := gaps_elem ((HS2.out.below BR.out (Nat.le_refl _)).more BR.out.size) hg
      obtain ⟨g1, g2⟩ := g
      change 2 ≤ g1 at m0
      change g1 ≤ g2 at m1
      change g2 ≤ 16 at m2
      clear hg
      have hT : (mk (wordsOf [g1, g2])).size ≤ 4 := by rw [mk_size, wordsOf_len]; simp
      go_wp2_with fail
      refine (iwords _ 2 _ [g1, g2] _ (sl_new1 rfl) rfl (by omega) (fun z hz => by simp at hz; omega)).mono ?_
      generalize mk (wordsOf [g1, g2]) = T at hT ⊢
      rintro e w3 ⟨rfl, b3⟩
      have B3 := Lib.hid (bstep ((BR.out.alloc BR.out.size (.cells #[.int .i64 g1, .int .i64 g2] 79)).alloc (by have := BR.out.size; simp; omega) (.cells #[.int .i64 g1, .int .i64 g2] 3)) b3 (by have := BR.out.size; simp; omega))
      clear b3 e1 e2
      have hST : (S ++ T).size ≤ 2 + 4 * (k + 1) := by
        rw [← bl_len, bl_append, List.length_append, bl_len, bl_len]
        omega
      go_wp2
      go_roundw
      case rel => exact ⟨k + 1, S ++ T, by omega, by go_num, rfl, hST, B3.out⟩
      case measure => simp [intOf]; omega
    · have y0 := Q2r.out.get 0 rfl
      have y1 := Q2r.out.get 1 rfl
      have y2 := Q2r.out.get 2 rfl
      have f0 := Q2r.out.frozen 0
      have f1 := Q2r.out.frozen 1
      have f2 := Q2r.out.frozen 2
      go_wp2
      refine bodyPost_ret (v := .tuple #[.agg #[.int .i64 3, .int .i64 0, .string S], .bool true]) (by simp [results, Try.results56, go_sem, y0, y1, y2]) rfl ?_
      exact ⟨_, rfl, ⟨S, rfl⟩, (((bstep B2.out BR.out B2.out.size).setCell (by simp) _).setCell (by simp) _).setCell (by simp) _⟩
end Go.Proofs.Ytglebkjhfofkcaa
