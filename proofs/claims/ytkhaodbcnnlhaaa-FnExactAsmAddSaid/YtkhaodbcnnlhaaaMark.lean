/-
  Messages: their cells, their comparison; what the laws' helpers write into messages and parts and find again. Conditions: those that each theorem bears.
-/
import Derived.Test.YtkhaodbcnnlhaaaSideL
import Derived.Test.YtkhaodbcnnlhaaaMsg
import Derived.Test.YtkhaodbcnnlhaaaCapB0
import Derived.Laws.IdiomStrings
namespace Go.Proofs.Ytkhaodbcnnlhaaa
open Go.ChangeShapes Go.WideShapes Go.ChangeAt Go.RowKit
set_option linter.unusedVariables false
set_option linter.unusedSimpArgs false
theorem conv_one (z : Int) (h0 : 0 ≤ z) (h1 : z ≤ 255) (w : World) :
    (convert 80 9 (.slice (some ⟨w.heap.size, 0, none⟩) 1 1)).run Try.prog (w.alloc (.cells #[.int .u8 z] 5)) = .ok (.string (mk [UInt8.ofNat z.toNat])) (w.alloc (.cells #[.int .u8 z] 5)) := by
  refine run_convert_bytes_back (P := Try.prog) _ 80 9 5 ⟨w.heap.size, 0, none⟩ 1 [UInt8.ofNat z.toNat] Try.underlying80 Try.underlying5 Try.underlying9 (fun j hj => ?_)
  have hadd : (⟨w.heap.size, 0, none⟩ : Addr).add j = ⟨w.heap.size, 0 + j, none⟩ := by unfold Addr.add; split <;> simp_all
  rw [hadd, (Blk.new w _ _).cell, Nat.zero_add]
  have hj2 : j < 1 := hj
  obtain rfl : j = 0 := by omega
  show some _ = some (Value.int .u8 ((UInt8.ofNat z.toNat).toNat : Int))
  rw [show ((UInt8.ofNat z.toNat).toNat : Int) = z from by simp; omega]
  rfl
set_option maxHeartbeats 800000 in
theorem mark_text (k : Nat) (h0 : 0 < k) (h1 : k ≤ 400000000) (w : World) : Calls Try.prog 34 #[.int .i64 k] w fun e w' => e = .returned (.string (mtext k)) ∧ Below w.heap.size w w' := by
  have hk : ¬ ((k : Int) ≤ 0) := by omega
  go_enter Try.func34, Try.ntmps34
  go_wp2
  go_loopw [0, 3] (fun kv o wr => ∃ (f n : Nat) (acc : List UInt8) (S : ByteArray), kv = .int .i64 n ∧ n ≤ f ∧ o = .string S ∧ Hid (S = mk acc) ∧ Hid (mt f n acc = mt k k []) ∧ S.size + n ≤ k ∧ Below w.heap.size w wr) (fun kv _ _ => (intOf kv).toNat)
  case atStart => exact ⟨k, k, [], ⟨#[]⟩, rfl, by omega, rfl, Lib.hid rfl, Lib.hid rfl, by show 0 + k ≤ k; omega, Below.refl _ _⟩
  case round =>
    obtain ⟨f, n, acc, S, rfl, hf, rfl, hS, hm, hsz, hb⟩ := hrel
    have B := Lib.hid hb
    clear hb
    by_cases hn : 0 < n
    · obtain ⟨f, rfl⟩ : ∃ g, f = g + 1 := ⟨f - 1, by omega⟩
      have HM := Lib.hid ((mt_step f n acc hn).symm.trans hm.out)
      have hz0 : (0 : Int) ≤ 48 + (n : Int) % 10 := by omega
      have hz1 : 48 + (n : Int) % 10 ≤ 255 := by omega
      have hcv := fun w => conv_one (48 + (n : Int) % 10) hz0 hz1 w
      have HZ := Lib.hid (show (48 + (n : Int) % 10).toNat = 48 + n % 10 from by omega)
      have hs1 : (mk [UInt8.ofNat (48 + (n : Int) % 10).toNat]).size = 1 := rfl
      have HA := Lib.hid (show mk [UInt8.ofNat (48 + (n : Int) % 10).toNat] ++ S = mk (UInt8.ofNat (48 + n % 10) :: acc) from by rw [hS.out, mk_append, HZ.out]; rfl)
      generalize mk [UInt8.ofNat (48 + (n : Int) % 10).toNat] = U at hcv hs1 HA
      have hs2 : (U ++ S).size = S.size + 1 := by rw [← bl_len, bl_append, List.length_append, bl_len, bl_len]; omega
      clear hm hS
      go_wp2
      go_roundw
      case rel => exact ⟨f, n / 10, UInt8.ofNat (48 + n % 10) :: acc, U ++ S, by go_num, by omega, rfl, HA, HM, by omega, B.out.alloc B.out.size _⟩
      case measure => simp [intOf]; omega
    · obtain rfl : n = 0 := by omega
      have HE := Lib.hid (show mtext k = mk [109] ++ S from by
        unfold mtext
        rw [← hm.out, mt_zero, hS.out, mk_append]
        rfl)
      clear hm hS
      go_wp2
      go_ret
      exact ⟨by rw [HE.out]; rfl, B.out⟩
theorem eq_msg (st sn : Int) (lo : Bool) (s : ByteArray) (w : World) : Calls Try.prog 32 #[.agg #[.int .i64 st, .int .i64 sn, .bool lo, .string s], .agg #[.int .i64 st, .int .i64 sn, .bool lo, .string s]] w fun e w' => e = .returned (.bool true) ∧ Below w.heap.size w w' := by
  cases lo
  all_goals
    go_enter Try.func32, Try.ntmps32
    go_wp2
    go_ret
    exact ⟨rfl, by go_grown⟩
set_option maxHeartbeats 1600000 in
theorem eq_msgs (A B : Option Addr) (n c d : Nat) (l : List Msg) (w : World) (hA : Sl w w.heap.size A (msgs l)) (hB : Sl w w.heap.size B (msgs l)) (hn : l.length = n) (hm : n ≤ 9223372036854775807) :
    Calls Try.prog 10 #[.slice A n c, .slice B n d] w fun e w' => e = .returned (.bool true) ∧ Below w.heap.size w w' := by
  have HA := Lib.hid hA; have HB := Lib.hid hB; have HN := Lib.hid hn; clear hA hB hn
  go_enter Try.func10, Try.ntmps10
  go_wp2
  go_loopw [5] (fun i wr => ∃ k : Nat, k ≤ n ∧ i = .int .i64 k ∧ Below w.heap.size w wr) (fun i _ => n - (intOf i).toNat)
  case atStart => exact ⟨0, by omega, rfl, Below.refl _ _⟩
  case round =>
    obtain ⟨k, hk, rfl, hb⟩ := hrel
    have BR := Lib.hid hb
    clear hb
    by_cases hlt : k < n
    · obtain ⟨g, hg⟩ := fget_of_lt (xs := l) (k := k) (by rw [HN.out]; exact hlt)
      obtain ⟨b, off, rfl, hbl, ⟨e0, e1, e2, e3⟩⟩ := msgs_elem ((HA.out.below BR.out (Nat.le_refl _)).more BR.out.size) hg
      obtain ⟨b', off', rfl, hbl', ⟨f0, f1, f2, f3⟩⟩ := msgs_elem ((HB.out.below BR.out (Nat.le_refl _)).more BR.out.size) hg
      obtain ⟨g0, g1, g2, g3⟩ := g
      change World.cell? _ _ = some (.int .i64 g0) at e0
      change World.cell? _ _ = some (.int .i64 g1) at e1
      change World.cell? _ _ = some (.bool g2) at e2
      change World.cell? _ _ = some (.string g3) at e3
      change World.cell? _ _ = some (.int .i64 g0) at f0
      change World.cell? _ _ = some (.int .i64 g1) at f1
      change World.cell? _ _ = some (.bool g2) at f2
      change World.cell? _ _ = some (.string g3) at f3
      clear hg
      have hk0 : (0 : Int) ≤ (k : Int) := by omega
      have hk1 : (k : Int) < (n : Int) := by omega
      go_wp2
      go_region_held3 (fun w' => w'.cell? ⟨b, off + k * 4, none⟩ = some (.int .i64 g0) ∧ w'.cell? ⟨b, off + k * 4 + 1, none⟩ = some (.int .i64 g1) ∧ w'.cell? ⟨b, off + k * 4 + 2, none⟩ = some (.bool g2) ∧ w'.cell? ⟨b, off + k * 4 + 3, none⟩ = some (.string g3) ∧ w'.cell? ⟨b', off' + k * 4, none⟩ = some (.int .i64 g0) ∧ w'.cell? ⟨b', off' + k * 4 + 1, none⟩ = some (.int .i64 g1) ∧ w'.cell? ⟨b', off' + k * 4 + 2, none⟩ = some (.bool g2) ∧ w'.cell? ⟨b', off' + k * 4 + 3, none⟩ = some (.string g3)) (first | exact ⟨e0, e1, e2, e3, f0, f1, f2, f3⟩ | exact ⟨t0, t1, t2, t3, u0, u1, u2, u3⟩ | go_keep)
        (first | (go_at_call 32; refine (eq_msg _ _ _ _ _).mono ?_; rintro e w5 ⟨rfl, b5⟩; have t0 := ((bcell b5).1 b (off + k * 4) hbl).trans e0; have t1 := ((bcell b5).1 b (off + k * 4 + 1) hbl).trans e1; have t2 := ((bcell b5).1 b (off + k * 4 + 2) hbl).trans e2; have t3 := ((bcell b5).1 b (off + k * 4 + 3) hbl).trans e3; have u0 := ((bcell b5).1 b' (off' + k * 4) hbl').trans f0; have u1 := ((bcell b5).1 b' (off' + k * 4 + 1) hbl').trans f1; have u2 := ((bcell b5).1 b' (off' + k * 4 + 2) hbl').trans f2; have u3 := ((bcell b5).1 b' (off' + k * 4 + 3) hbl').trans f3; have B5 := Lib.hid (bstep BR.out.drew b5 BR.out.size); clear b5))
      go_wp2
      go_roundw
      case rel => exact ⟨k + 1, by omega, by go_num, B5.out⟩
      case measure => simp [intOf]; omega
    · go_wp2
      go_ret
      exact ⟨rfl, BR.out⟩
def mmarks (k : Nat) (n : Nat) : List Msg := (List.range n).map fun i => ⟨((k + 4 * i : Nat) : Int), ((k + 4 * i + 1 : Nat) : Int), (((k + 4 * i + 2 : Nat) : Int) % 3 == 0), mtext (k + 4 * i + 3)⟩
theorem mmarks_len (k n : Nat) : (mmarks k n).length = n := by simp [mmarks]
theorem mmarks_get (k n j : Nat) (h : j < n) : (mmarks k n)[j]? = some ⟨((k + 4 * j : Nat) : Int), ((k + 4 * j + 1 : Nat) : Int), (((k + 4 * j + 2 : Nat) : Int) % 3 == 0), mtext (k + 4 * j + 3)⟩ := by
  unfold mmarks
  rw [List.getElem?_map, List.getElem?_range h]
  rfl
def MarkMPost (A : Option Addr) (n c : Nat) (k : Nat) (base : Nat) (w : World) (e : Ending) (w' : World) : Prop :=
  e = .returned (.int .i64 ((k + 4 * n : Nat) : Int)) ∧ Own w' base 64 4 A n c (msgs (mmarks k n)) ∧ ∃ row, w.grownBy w' row ∧ ∀ g, row = some g → ∃ a, A = some a ∧ a.block = g
set_option maxHeartbeats 6400000 in
set_option maxRecDepth 100000 in
theorem mark_msgs (A : Option Addr) (n c : Nat) (k : Nat) (base : Nat) (l : List Msg) (w : World) (ho : Own w base 64 4 A n c (msgs l)) (hk : k ≤ 100000000) (hm : n ≤ 1048576) :
    Calls Try.prog 13 #[.slice A n c, .int .i64 k] w (MarkMPost A n c k base w) := by
  have HL := Lib.hid (by have := ho.len; rw [msgs_len] at this; omega : l.length = n)
  have HO := Lib.hid ho; clear ho
  by_cases hn : n = 0
  · subst hn
    go_enter Try.func13, Try.ntmps13
    go_wp2
    go_rounds 1
    go_ret
    have hz : l = [] := List.eq_nil_of_length_eq_zero HL.out
    subst hz
    exact ⟨rfl, HO.out, none, World.grownBy.refl w _, fun _ e => by cases e⟩
  · obtain ⟨g, rfl⟩ := HO.out.some_of hn
    go_enter Try.func13, Try.ntmps13
    go_wp2
    go_loopw [1, 5] (fun kv i wr => ∃ (j : Nat) (ys : List Msg), j ≤ n ∧ i = .int .i64 j ∧ kv = .int .i64 ((k + 4 * j : Nat) : Int) ∧ Own wr base 64 4 (some ⟨g, 0, none⟩) n c (msgs ys) ∧ Hid (ys.length = n) ∧ Hid (ys.take j = (mmarks k n).take j) ∧ w.grownBy wr (some g)) (fun _ i _ => n - (intOf i).toNat)
    case atStart => exact ⟨0, l, by omega, rfl, rfl, HO.out, HL, Lib.hid rfl, World.grownBy.refl w _⟩
    case round =>
      obtain ⟨j, ys, hj, rfl, rfl, ho, hyl, hyt, hg⟩ := hrel
      have HO2 := Lib.hid ho
      have HG := Lib.hid hg
      clear ho hg
      obtain ⟨K, hK⟩ : ∃ K, K = k + 4 * j := ⟨_, rfl⟩
      have hKb : K ≤ 400000000 - 10 := by omega
      rw [← hK]
      have HK := Lib.hid hK
      clear hK
      by_cases hlt : j < n
      · have hjl : j < ys.length := by rw [hyl.out]; exact hlt
        obtain ⟨y, hy⟩ := fget_of_lt hjl
        have f0 := HO2.out.fcell (j * 4) (flat_at msgC_len hy (j := 0) rfl)
        have ff0 := HO2.out.ffroz (j * 4)
        have f1 := HO2.out.fcell (j * 4 + 1) (flat_at msgC_len hy (j := 1) rfl)
        have ff1 := HO2.out.ffroz (j * 4 + 1)
        have f2 := HO2.out.fcell (j * 4 + 2) (flat_at msgC_len hy (j := 2) rfl)
        have ff2 := HO2.out.ffroz (j * 4 + 2)
        have w1a := IntWalk.i64_in ((K : Int) + 1) (by omega)
        have w2a := IntWalk.i64_in ((K : Int) + 2) (by omega)
        have w2b := IntWalk.i64_in ((K : Int) + 1 + 1) (by omega)
        have w3a := IntWalk.i64_in ((K : Int) + 3) (by omega)
        have w3b := IntWalk.i64_in ((K : Int) + 2 + 1) (by omega)
        have w4a := IntWalk.i64_in ((K : Int) + 4) (by omega)
        have w4b := IntWalk.i64_in ((K : Int) + 3 + 1) (by omega)
        have MT := Lib.hid (fun w => (by have := mark_text (K + 3) (by omega) (by omega) w; simpa using this : Calls Try.prog 34 #[.int .i64 ((K : Int) + 3)] w fun e w' => e = .returned (.string (mtext (K + 3))) ∧ Below w.heap.size w w'))
        obtain ⟨b2, hb2⟩ : ∃ b, (((K + 2 : Nat) : Int) % 3 == 0) = b := ⟨_, rfl⟩
        have HB2 := Lib.hid hb2
        have hc2a : (((K : Int) + 1 + 1) % 3 == 0) = b2 := by rw [show (K : Int) + 1 + 1 = ((K + 2 : Nat) : Int) by omega]; exact hb2
        have hc2b : (((K : Int) + 2) % 3 == 0) = b2 := by rw [show (K : Int) + 2 = ((K + 2 : Nat) : Int) by omega]; exact hb2
        clear hb2
        have HX := Lib.hid (((HO2.out.fput (j * 4) (.int .i64 (K : Int))).fput (j * 4 + 1) (.int .i64 ((K : Int) + 1))).fput (j * 4 + 2) (.bool b2))
        have HXG := Lib.hid (gb_setCell (gb_setCell (gb_setCell HG.out (p := ⟨g, j * 4, none⟩) (.inl rfl) (.int .i64 (K : Int))) (p := ⟨g, j * 4 + 1, none⟩) (.inl rfl) (.int .i64 ((K : Int) + 1))) (p := ⟨g, j * 4 + 2, none⟩) (.inl rfl) (.bool b2))
        obtain ⟨y0, y1, y2, y3⟩ := y
        have hyc : (msgs ys)[j * 4 + 3]? = some (.string y3) := flat_at msgC_len hy (j := 3) rfl
        clear hy
        go_wp2_with fail
        refine (MT.out _).mono ?_
        rintro e w3 ⟨rfl, b3⟩
        have HO3 := Lib.hid (HX.out.below b3 (Nat.le_refl _))
        have HG3 := Lib.hid (gb_below HXG.out b3 HXG.out.size)
        have fz := HO3.out.fcell (j * 4 + 3) (u := .string y3) (by rw [List.getElem?_set_ne (by omega), List.getElem?_set_ne (by omega), List.getElem?_set_ne (by omega)]; exact hyc)
        have ffz := HO3.out.ffroz (j * 4 + 3)
        clear b3 MT f0 ff0 f1 ff1 f2 ff2
        go_wp2
        go_roundw
        case rel =>
          refine ⟨j + 1, ys.set j ⟨((K : Nat) : Int), ((K + 1 : Nat) : Int), (((K + 2 : Nat) : Int) % 3 == 0), mtext (K + 3)⟩, by omega, by go_num, by rw [show k + 4 * (j + 1) = K + 4 from by have := HK.out; omega]; go_num, ?_, Lib.hid (by rw [List.length_set]; exact hyl.out), Lib.hid ?_, gb_setCell HG3.out (.inl rfl) _⟩
          · unfold msgs
            rw [← flat_setMany msgC_len ys j _ hjl]
            have h := HO3.out.fput (j * 4 + 3) (.string (mtext (K + 3)))
            rw [← HB2.out] at h
            exact h
          · rw [ftake_set ys j _ hjl, hyt.out, ftake_succ (mmarks_get k n j hlt), HK.out]
        case measure => simp [intOf]; omega
      · go_wp2
        go_ret
        have h1 : ys = mmarks k n := ftake_all hyt.out hyl.out (mmarks_len k n) (by omega)
        rw [h1] at HO2
        exact ⟨ret_int (by have := HK.out; omega), HO2.out, some g, HG.out, fun g' e => ⟨_, rfl, by injection e⟩⟩
set_option maxHeartbeats 6400000 in
set_option maxRecDepth 100000 in
theorem held_msgs (A : Option Addr) (n c : Nat) (k : Nat) (w : World) (hA : Sl w w.heap.size A (msgs (mmarks k n))) (hk : k ≤ 100000000) (hm : n ≤ 1048576) :
    Calls Try.prog 14 #[.slice A n c, .int .i64 k] w fun e w' => e = .returned (.int .i64 ((k + 4 * n : Nat) : Int)) ∧ Below w.heap.size w w' := by
  have HA := Lib.hid hA; clear hA
  go_enter Try.func14, Try.ntmps14
  go_wp2
  go_loopw [1, 5] (fun kv i wr => ∃ j : Nat, j ≤ n ∧ i = .int .i64 j ∧ kv = .int .i64 ((k + 4 * j : Nat) : Int) ∧ Below w.heap.size w wr) (fun _ i _ => n - (intOf i).toNat)
  case atStart => exact ⟨0, by omega, rfl, rfl, Below.refl _ _⟩
  case round =>
    obtain ⟨j, hj, rfl, rfl, hb⟩ := hrel
    have B := Lib.hid hb
    clear hb
    by_cases hlt : j < n
    · obtain ⟨b, off, rfl, hb, ⟨e0, e1, e2, e3⟩⟩ := msgs_elem ((HA.out.below B.out (Nat.le_refl _)).more B.out.size) (mmarks_get k n j hlt)
      obtain ⟨K, hK⟩ : ∃ K, K = k + 4 * j := ⟨_, rfl⟩
      have hKb : K ≤ 400000000 - 10 := by omega
      rw [← hK] at e0 e1 e2 e3 ⊢
      have HK := Lib.hid hK
      clear hK
      have w1a := IntWalk.i64_in ((K : Int) + 1) (by omega)
      have w2a := IntWalk.i64_in ((K : Int) + 2) (by omega)
      have w2b := IntWalk.i64_in ((K : Int) + 1 + 1) (by omega)
      have w3a := IntWalk.i64_in ((K : Int) + 3) (by omega)
      have w3b := IntWalk.i64_in ((K : Int) + 2 + 1) (by omega)
      have w4a := IntWalk.i64_in ((K : Int) + 4) (by omega)
      have w4b := IntWalk.i64_in ((K : Int) + 3 + 1) (by omega)
      have MT := Lib.hid (fun w => (by have := mark_text (K + 3) (by omega) (by omega) w; simpa using this : Calls Try.prog 34 #[.int .i64 ((K : Int) + 3)] w fun e w' => e = .returned (.string (mtext (K + 3))) ∧ Below w.heap.size w w'))
      change wr.cell? ⟨b, off + j * 4, none⟩ = some (.int .i64 ((K : Nat) : Int)) at e0
      have g0 : wr.cell? ⟨b, off + j * 4, none⟩ = some (.int .i64 ((K : Int))) := by simpa using e0
      change wr.cell? ⟨b, off + j * 4 + 1, none⟩ = some (.int .i64 ((K + 1 : Nat) : Int)) at e1
      have g1 : wr.cell? ⟨b, off + j * 4 + 1, none⟩ = some (.int .i64 ((K : Int) + 1)) := by simpa using e1
      change wr.cell? ⟨b, off + j * 4 + 2, none⟩ = some (.bool (((K + 2 : Nat) : Int) % 3 == 0)) at e2
      obtain ⟨b2, hb2⟩ : ∃ b, (((K + 2 : Nat) : Int) % 3 == 0) = b := ⟨_, rfl⟩
      rw [hb2] at e2
      have g2 := e2
      have hc2a : (((K : Int) + 1 + 1) % 3 == 0) = b2 := by rw [show (K : Int) + 1 + 1 = ((K + 2 : Nat) : Int) by omega]; exact hb2
      have hc2b : (((K : Int) + 2) % 3 == 0) = b2 := by rw [show (K : Int) + 2 = ((K + 2 : Nat) : Int) by omega]; exact hb2
      clear hb2
      change wr.cell? ⟨b, off + j * 4 + 3, none⟩ = some (.string (mtext (K + 3))) at e3
      generalize mtext (K + 3) = M at e3 MT
      clear e0 e1 e2
      go_wp2
      go_region_held3 (fun w' => w'.cell? ⟨b, off + j * 4 + 3, none⟩ = some (.string M)) (first | exact e3 | exact t2 | go_keep)
        (first | (go_at_call 34; refine (MT.out _).mono ?_; rintro e w5 ⟨rfl, b5⟩; have t2 := (bcell b5).1 b (off + j * 4 + 3) hb; have t2 := t2.trans e3; have B5 := Lib.hid (bstep B.out.drew b5 B.out.size); clear b5))
      go_wp2
      go_roundw
      case rel => exact ⟨j + 1, by omega, by go_num, by rw [show k + 4 * (j + 1) = K + 4 from by have := HK.out; omega]; go_num, B5.out⟩
      case measure => simp [intOf]; omega
    · go_wp2
      go_ret
      exact ⟨ret_int (by omega), B.out⟩
def dmarks (k : Nat) (n : Nat) : List Dat := (List.range n).map fun i => ⟨((k + 7 * i : Nat) : Int), ((k + 7 * i + 1 : Nat) : Int), ((k + 7 * i + 2 : Nat) : Int), (((k + 7 * i + 3 : Nat) : Int) % 3 == 0), (((k + 7 * i + 4 : Nat) : Int) % 3 == 0), (((k + 7 * i + 5 : Nat) : Int) % 3 == 0), mtext (k + 7 * i + 6)⟩
theorem dmarks_len (k n : Nat) : (dmarks k n).length = n := by simp [dmarks]
theorem dmarks_get (k n j : Nat) (h : j < n) : (dmarks k n)[j]? = some ⟨((k + 7 * j : Nat) : Int), ((k + 7 * j + 1 : Nat) : Int), ((k + 7 * j + 2 : Nat) : Int), (((k + 7 * j + 3 : Nat) : Int) % 3 == 0), (((k + 7 * j + 4 : Nat) : Int) % 3 == 0), (((k + 7 * j + 5 : Nat) : Int) % 3 == 0), mtext (k + 7 * j + 6)⟩ := by
  unfold dmarks
  rw [List.getElem?_map, List.getElem?_range h]
  rfl
def MarkDPost (A : Option Addr) (n c : Nat) (k : Nat) (base : Nat) (w : World) (e : Ending) (w' : World) : Prop :=
  e = .returned (.int .i64 ((k + 7 * n : Nat) : Int)) ∧ Own w' base 45 7 A n c (dats (dmarks k n)) ∧ ∃ row, w.grownBy w' row ∧ ∀ g, row = some g → ∃ a, A = some a ∧ a.block = g
set_option maxHeartbeats 6400000 in
set_option maxRecDepth 100000 in
theorem mark_dats (A : Option Addr) (n c : Nat) (k : Nat) (base : Nat) (l : List Dat) (w : World) (ho : Own w base 45 7 A n c (dats l)) (hk : k ≤ 100000000) (hm : n ≤ 1048576) :
    Calls Try.prog 12 #[.slice A n c, .int .i64 k] w (MarkDPost A n c k base w) := by
  have HL := Lib.hid (by have := ho.len; rw [dats_len] at this; omega : l.length = n)
  have HO := Lib.hid ho; clear ho
  by_cases hn : n = 0
  · subst hn
    go_enter Try.func12, Try.ntmps12
    go_wp2
    go_rounds 1
    go_ret
    have hz : l = [] := List.eq_nil_of_length_eq_zero HL.out
    subst hz
    exact ⟨rfl, HO.out, none, World.grownBy.refl w _, fun _ e => by cases e⟩
  · obtain ⟨g, rfl⟩ := HO.out.some_of hn
    go_enter Try.func12, Try.ntmps12
    go_wp2
    go_loopw [1, 5] (fun kv i wr => ∃ (j : Nat) (ys : List Dat), j ≤ n ∧ i = .int .i64 j ∧ kv = .int .i64 ((k + 7 * j : Nat) : Int) ∧ Own wr base 45 7 (some ⟨g, 0, none⟩) n c (dats ys) ∧ Hid (ys.length = n) ∧ Hid (ys.take j = (dmarks k n).take j) ∧ w.grownBy wr (some g)) (fun _ i _ => n - (intOf i).toNat)
    case atStart => exact ⟨0, l, by omega, rfl, rfl, HO.out, HL, Lib.hid rfl, World.grownBy.refl w _⟩
    case round =>
      obtain ⟨j, ys, hj, rfl, rfl, ho, hyl, hyt, hg⟩ := hrel
      have HO2 := Lib.hid ho
      have HG := Lib.hid hg
      clear ho hg
      obtain ⟨K, hK⟩ : ∃ K, K = k + 7 * j := ⟨_, rfl⟩
      have hKb : K ≤ 400000000 - 10 := by omega
      rw [← hK]
      have HK := Lib.hid hK
      clear hK
      by_cases hlt : j < n
      · have hjl : j < ys.length := by rw [hyl.out]; exact hlt
        obtain ⟨y, hy⟩ := fget_of_lt hjl
        have f0 := HO2.out.fcell (j * 7) (flat_at datC_len hy (j := 0) rfl)
        have ff0 := HO2.out.ffroz (j * 7)
        have f1 := HO2.out.fcell (j * 7 + 1) (flat_at datC_len hy (j := 1) rfl)
        have ff1 := HO2.out.ffroz (j * 7 + 1)
        have f2 := HO2.out.fcell (j * 7 + 2) (flat_at datC_len hy (j := 2) rfl)
        have ff2 := HO2.out.ffroz (j * 7 + 2)
        have f3 := HO2.out.fcell (j * 7 + 3) (flat_at datC_len hy (j := 3) rfl)
        have ff3 := HO2.out.ffroz (j * 7 + 3)
        have f4 := HO2.out.fcell (j * 7 + 4) (flat_at datC_len hy (j := 4) rfl)
        have ff4 := HO2.out.ffroz (j * 7 + 4)
        have f5 := HO2.out.fcell (j * 7 + 5) (flat_at datC_len hy (j := 5) rfl)
        have ff5 := HO2.out.ffroz (j * 7 + 5)
        have w1a := IntWalk.i64_in ((K : Int) + 1) (by omega)
        have w2a := IntWalk.i64_in ((K : Int) + 2) (by omega)
        have w2b := IntWalk.i64_in ((K : Int) + 1 + 1) (by omega)
        have w3a := IntWalk.i64_in ((K : Int) + 3) (by omega)
        have w3b := IntWalk.i64_in ((K : Int) + 2 + 1) (by omega)
        have w4a := IntWalk.i64_in ((K : Int) + 4) (by omega)
        have w4b := IntWalk.i64_in ((K : Int) + 3 + 1) (by omega)
        have w5a := IntWalk.i64_in ((K : Int) + 5) (by omega)
        have w5b := IntWalk.i64_in ((K : Int) + 4 + 1) (by omega)
        have w6a := IntWalk.i64_in ((K : Int) + 6) (by omega)
        have w6b := IntWalk.i64_in ((K : Int) + 5 + 1) (by omega)
        have w7a := IntWalk.i64_in ((K : Int) + 7) (by omega)
        have w7b := IntWalk.i64_in ((K : Int) + 6 + 1) (by omega)
        have MT := Lib.hid (fun w => (by have := mark_text (K + 6) (by omega) (by omega) w; simpa using this : Calls Try.prog 34 #[.int .i64 ((K : Int) + 6)] w fun e w' => e = .returned (.string (mtext (K + 6))) ∧ Below w.heap.size w w'))
        obtain ⟨b3, hb3⟩ : ∃ b, (((K + 3 : Nat) : Int) % 3 == 0) = b := ⟨_, rfl⟩
        have HB3 := Lib.hid hb3
        have hc3a : (((K : Int) + 1 + 1 + 1) % 3 == 0) = b3 := by rw [show (K : Int) + 1 + 1 + 1 = ((K + 3 : Nat) : Int) by omega]; exact hb3
        have hc3b : (((K : Int) + 2 + 1) % 3 == 0) = b3 := by rw [show (K : Int) + 2 + 1 = ((K + 3 : Nat) : Int) by omega]; exact hb3
        have hc3c : (((K : Int) + 3) % 3 == 0) = b3 := by rw [show (K : Int) + 3 = ((K + 3 : Nat) : Int) by omega]; exact hb3
        clear hb3
        obtain ⟨b4, hb4⟩ : ∃ b, (((K + 4 : Nat) : Int) % 3 == 0) = b := ⟨_, rfl⟩
        have HB4 := Lib.hid hb4
        have hc4a : (((K : Int) + 1 + 1 + 1 + 1) % 3 == 0) = b4 := by rw [show (K : Int) + 1 + 1 + 1 + 1 = ((K + 4 : Nat) : Int) by omega]; exact hb4
        have hc4b : (((K : Int) + 3 + 1) % 3 == 0) = b4 := by rw [show (K : Int) + 3 + 1 = ((K + 4 : Nat) : Int) by omega]; exact hb4
        have hc4c : (((K : Int) + 4) % 3 == 0) = b4 := by rw [show (K : Int) + 4 = ((K + 4 : Nat) : Int) by omega]; exact hb4
        clear hb4
        obtain ⟨b5, hb5⟩ : ∃ b, (((K + 5 : Nat) : Int) % 3 == 0) = b := ⟨_, rfl⟩
        have HB5 := Lib.hid hb5
        have hc5a : (((K : Int) + 1 + 1 + 1 + 1 + 1) % 3 == 0) = b5 := by rw [show (K : Int) + 1 + 1 + 1 + 1 + 1 = ((K + 5 : Nat) : Int) by omega]; exact hb5
        have hc5b : (((K : Int) + 4 + 1) % 3 == 0) = b5 := by rw [show (K : Int) + 4 + 1 = ((K + 5 : Nat) : Int) by omega]; exact hb5
        have hc5c : (((K : Int) + 5) % 3 == 0) = b5 := by rw [show (K : Int) + 5 = ((K + 5 : Nat) : Int) by omega]; exact hb5
        clear hb5
        have HX := Lib.hid ((((((HO2.out.fput (j * 7) (.int .i64 (K : Int))).fput (j * 7 + 1) (.int .i64 ((K : Int) + 1))).fput (j * 7 + 2) (.int .i64 ((K : Int) + 2))).fput (j * 7 + 3) (.bool b3)).fput (j * 7 + 4) (.bool b4)).fput (j * 7 + 5) (.bool b5))
        have HXG := Lib.hid (gb_setCell (gb_setCell (gb_setCell (gb_setCell (gb_setCell (gb_setCell HG.out (p := ⟨g, j * 7, none⟩) (.inl rfl) (.int .i64 (K : Int))) (p := ⟨g, j * 7 + 1, none⟩) (.inl rfl) (.int .i64 ((K : Int) + 1))) (p := ⟨g, j * 7 + 2, none⟩) (.inl rfl) (.int .i64 ((K : Int) + 2))) (p := ⟨g, j * 7 + 3, none⟩) (.inl rfl) (.bool b3)) (p := ⟨g, j * 7 + 4, none⟩) (.inl rfl) (.bool b4)) (p := ⟨g, j * 7 + 5, none⟩) (.inl rfl) (.bool b5))
        obtain ⟨y0, y1, y2, y3, y4, y5, y6⟩ := y
        have hyc : (dats ys)[j * 7 + 6]? = some (.string y6) := flat_at datC_len hy (j := 6) rfl
        clear hy
        go_wp2_with fail
        refine (MT.out _).mono ?_
        rintro e w3 ⟨rfl, b3⟩
        have HO3 := Lib.hid (HX.out.below b3 (Nat.le_refl _))
        have HG3 := Lib.hid (gb_below HXG.out b3 HXG.out.size)
        have fz := HO3.out.fcell (j * 7 + 6) (u := .string y6) (by rw [List.getElem?_set_ne (by omega), List.getElem?_set_ne (by omega), List.getElem?_set_ne (by omega), List.getElem?_set_ne (by omega), List.getElem?_set_ne (by omega), List.getElem?_set_ne (by omega)]; exact hyc)
        have ffz := HO3.out.ffroz (j * 7 + 6)
        clear b3 MT f0 ff0 f1 ff1 f2 ff2 f3 ff3 f4 ff4 f5 ff5
        go_wp2
        go_roundw
        case rel =>
          refine ⟨j + 1, ys.set j ⟨((K : Nat) : Int), ((K + 1 : Nat) : Int), ((K + 2 : Nat) : Int), (((K + 3 : Nat) : Int) % 3 == 0), (((K + 4 : Nat) : Int) % 3 == 0), (((K + 5 : Nat) : Int) % 3 == 0), mtext (K + 6)⟩, by omega, by go_num, by rw [show k + 7 * (j + 1) = K + 7 from by have := HK.out; omega]; go_num, ?_, Lib.hid (by rw [List.length_set]; exact hyl.out), Lib.hid ?_, gb_setCell HG3.out (.inl rfl) _⟩
          · unfold dats
            rw [← flat_setMany datC_len ys j _ hjl]
            have h := HO3.out.fput (j * 7 + 6) (.string (mtext (K + 6)))
            rw [← HB3.out] at h
            rw [← HB4.out] at h
            rw [← HB5.out] at h
            exact h
          · rw [ftake_set ys j _ hjl, hyt.out, ftake_succ (dmarks_get k n j hlt), HK.out]
        case measure => simp [intOf]; omega
      · go_wp2
        go_ret
        have h1 : ys = dmarks k n := ftake_all hyt.out hyl.out (dmarks_len k n) (by omega)
        rw [h1] at HO2
        exact ⟨ret_int (by have := HK.out; omega), HO2.out, some g, HG.out, fun g' e => ⟨_, rfl, by injection e⟩⟩
set_option maxHeartbeats 6400000 in
set_option maxRecDepth 100000 in
theorem held_dats (A : Option Addr) (n c : Nat) (k : Nat) (w : World) (hA : Sl w w.heap.size A (dats (dmarks k n))) (hk : k ≤ 100000000) (hm : n ≤ 1048576) :
    Calls Try.prog 50 #[.slice A n c, .int .i64 k] w fun e w' => e = .returned (.int .i64 ((k + 7 * n : Nat) : Int)) ∧ Below w.heap.size w w' := by
  have HA := Lib.hid hA; clear hA
  go_enter Try.func50, Try.ntmps50
  go_wp2
  go_loopw [1, 5] (fun kv i wr => ∃ j : Nat, j ≤ n ∧ i = .int .i64 j ∧ kv = .int .i64 ((k + 7 * j : Nat) : Int) ∧ Below w.heap.size w wr) (fun _ i _ => n - (intOf i).toNat)
  case atStart => exact ⟨0, by omega, rfl, rfl, Below.refl _ _⟩
  case round =>
    obtain ⟨j, hj, rfl, rfl, hb⟩ := hrel
    have B := Lib.hid hb
    clear hb
    by_cases hlt : j < n
    · obtain ⟨b, off, rfl, hb, ⟨e0, e1, e2, e3, e4, e5, e6⟩⟩ := dats_elem ((HA.out.below B.out (Nat.le_refl _)).more B.out.size) (dmarks_get k n j hlt)
      obtain ⟨K, hK⟩ : ∃ K, K = k + 7 * j := ⟨_, rfl⟩
      have hKb : K ≤ 400000000 - 10 := by omega
      rw [← hK] at e0 e1 e2 e3 e4 e5 e6 ⊢
      have HK := Lib.hid hK
      clear hK
      have w1a := IntWalk.i64_in ((K : Int) + 1) (by omega)
      have w2a := IntWalk.i64_in ((K : Int) + 2) (by omega)
      have w2b := IntWalk.i64_in ((K : Int) + 1 + 1) (by omega)
      have w3a := IntWalk.i64_in ((K : Int) + 3) (by omega)
      have w3b := IntWalk.i64_in ((K : Int) + 2 + 1) (by omega)
      have w4a := IntWalk.i64_in ((K : Int) + 4) (by omega)
      have w4b := IntWalk.i64_in ((K : Int) + 3 + 1) (by omega)
      have w5a := IntWalk.i64_in ((K : Int) + 5) (by omega)
      have w5b := IntWalk.i64_in ((K : Int) + 4 + 1) (by omega)
      have w6a := IntWalk.i64_in ((K : Int) + 6) (by omega)
      have w6b := IntWalk.i64_in ((K : Int) + 5 + 1) (by omega)
      have w7a := IntWalk.i64_in ((K : Int) + 7) (by omega)
      have w7b := IntWalk.i64_in ((K : Int) + 6 + 1) (by omega)
      have MT := Lib.hid (fun w => (by have := mark_text (K + 6) (by omega) (by omega) w; simpa using this : Calls Try.prog 34 #[.int .i64 ((K : Int) + 6)] w fun e w' => e = .returned (.string (mtext (K + 6))) ∧ Below w.heap.size w w'))
      change wr.cell? ⟨b, off + j * 7, none⟩ = some (.int .i64 ((K : Nat) : Int)) at e0
      have g0 : wr.cell? ⟨b, off + j * 7, none⟩ = some (.int .i64 ((K : Int))) := by simpa using e0
      change wr.cell? ⟨b, off + j * 7 + 1, none⟩ = some (.int .i64 ((K + 1 : Nat) : Int)) at e1
      have g1 : wr.cell? ⟨b, off + j * 7 + 1, none⟩ = some (.int .i64 ((K : Int) + 1)) := by simpa using e1
      change wr.cell? ⟨b, off + j * 7 + 2, none⟩ = some (.int .i64 ((K + 2 : Nat) : Int)) at e2
      have g2 : wr.cell? ⟨b, off + j * 7 + 2, none⟩ = some (.int .i64 ((K : Int) + 2)) := by simpa using e2
      change wr.cell? ⟨b, off + j * 7 + 3, none⟩ = some (.bool (((K + 3 : Nat) : Int) % 3 == 0)) at e3
      obtain ⟨b3, hb3⟩ : ∃ b, (((K + 3 : Nat) : Int) % 3 == 0) = b := ⟨_, rfl⟩
      rw [hb3] at e3
      have g3 := e3
      have hc3a : (((K : Int) + 1 + 1 + 1) % 3 == 0) = b3 := by rw [show (K : Int) + 1 + 1 + 1 = ((K + 3 : Nat) : Int) by omega]; exact hb3
      have hc3b : (((K : Int) + 2 + 1) % 3 == 0) = b3 := by rw [show (K : Int) + 2 + 1 = ((K + 3 : Nat) : Int) by omega]; exact hb3
      have hc3c : (((K : Int) + 3) % 3 == 0) = b3 := by rw [show (K : Int) + 3 = ((K + 3 : Nat) : Int) by omega]; exact hb3
      clear hb3
      change wr.cell? ⟨b, off + j * 7 + 4, none⟩ = some (.bool (((K + 4 : Nat) : Int) % 3 == 0)) at e4
      obtain ⟨b4, hb4⟩ : ∃ b, (((K + 4 : Nat) : Int) % 3 == 0) = b := ⟨_, rfl⟩
      rw [hb4] at e4
      have g4 := e4
      have hc4a : (((K : Int) + 1 + 1 + 1 + 1) % 3 == 0) = b4 := by rw [show (K : Int) + 1 + 1 + 1 + 1 = ((K + 4 : Nat) : Int) by omega]; exact hb4
      have hc4b : (((K : Int) + 3 + 1) % 3 == 0) = b4 := by rw [show (K : Int) + 3 + 1 = ((K + 4 : Nat) : Int) by omega]; exact hb4
      have hc4c : (((K : Int) + 4) % 3 == 0) = b4 := by rw [show (K : Int) + 4 = ((K + 4 : Nat) : Int) by omega]; exact hb4
      clear hb4
      change wr.cell? ⟨b, off + j * 7 + 5, none⟩ = some (.bool (((K + 5 : Nat) : Int) % 3 == 0)) at e5
      obtain ⟨b5, hb5⟩ : ∃ b, (((K + 5 : Nat) : Int) % 3 == 0) = b := ⟨_, rfl⟩
      rw [hb5] at e5
      have g5 := e5
      have hc5a : (((K : Int) + 1 + 1 + 1 + 1 + 1) % 3 == 0) = b5 := by rw [show (K : Int) + 1 + 1 + 1 + 1 + 1 = ((K + 5 : Nat) : Int) by omega]; exact hb5
      have hc5b : (((K : Int) + 4 + 1) % 3 == 0) = b5 := by rw [show (K : Int) + 4 + 1 = ((K + 5 : Nat) : Int) by omega]; exact hb5
      have hc5c : (((K : Int) + 5) % 3 == 0) = b5 := by rw [show (K : Int) + 5 = ((K + 5 : Nat) : Int) by omega]; exact hb5
      clear hb5
      change wr.cell? ⟨b, off + j * 7 + 6, none⟩ = some (.string (mtext (K + 6))) at e6
      generalize mtext (K + 6) = M at e6 MT
      clear e0 e1 e2 e3 e4 e5
      go_wp2
      go_region_held3 (fun w' => w'.cell? ⟨b, off + j * 7 + 6, none⟩ = some (.string M)) (first | exact e6 | exact t2 | go_keep)
        (first | (go_at_call 34; refine (MT.out _).mono ?_; rintro e w5 ⟨rfl, b5⟩; have t2 := (bcell b5).1 b (off + j * 7 + 6) hb; have t2 := t2.trans e6; have B5 := Lib.hid (bstep B.out.drew b5 B.out.size); clear b5))
      go_wp2
      go_roundw
      case rel => exact ⟨j + 1, by omega, by go_num, by rw [show k + 7 * (j + 1) = K + 7 from by have := HK.out; omega]; go_num, B5.out⟩
      case measure => simp [intOf]; omega
    · go_wp2
      go_ret
      exact ⟨ret_int (by omega), B.out⟩
theorem mark_side (tag st fi ac : Int) (A : Option Addr) (n c : Nat) (k : Nat) (base : Nat) (l : List Dat) (w : World) (ho : Own w base 45 7 A n c (dats l)) (hk : k ≤ 100000000) (hm : n ≤ 1048576) :
    Calls Try.prog 29 #[.agg #[.int .i64 tag, .int .i64 st, .int .i64 fi, .slice A n c, .int .i64 ac], .int .i64 k] w (MarkDPost A n c k base w) := by
  have HO := Lib.hid ho; clear ho
  go_enter Try.func29, Try.ntmps29
  go_wp2_with fail
  refine (mark_dats _ _ _ k base l _ (HO.out.alloc _) hk hm).mono ?_
  rintro e w1 ⟨rfl, o1, row, g1, r1⟩
  go_wp2
  go_ret
  exact ⟨rfl, o1, row, gb_trans (World.grownBy_alloc w _ row) g1 (fun g e => .inl e), r1⟩
end Go.Proofs.Ytkhaodbcnnlhaaa
