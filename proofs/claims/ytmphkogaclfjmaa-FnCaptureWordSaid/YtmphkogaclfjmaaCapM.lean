/-
  Marks of records: what the laws' helpers write and find again. Conditions: those that each theorem bears.
-/
import Derived.Test.YtmphkogaclfjmaaCapE
import Derived.Test.YtmphkogaclfjmaaCapB0
import Derived.Test.YtmphkogaclfjmaaNumR
import Derived.Laws.IdiomStrings
namespace Go.Proofs.Ytmphkogaclfjmaa
open Go.ChangeShapes Go.WideShapes Go.ChangeAt Go.RowKit
set_option linter.unusedVariables false

theorem conv_one (z : Int) (h0 : 0 ≤ z) (h1 : z ≤ 255) (w : World) :
    (convert 29 9 (.slice (some ⟨w.heap.size, 0, none⟩) 1 1)).run Try.prog (w.alloc (.cells #[.int .u8 z] 5)) = .ok (.string (mk [UInt8.ofNat z.toNat])) (w.alloc (.cells #[.int .u8 z] 5)) := by
  refine run_convert_bytes_back (P := Try.prog) _ 29 9 5 ⟨w.heap.size, 0, none⟩ 1 [UInt8.ofNat z.toNat] Try.underlying29 Try.underlying5 Try.underlying9 (fun j hj => ?_)
  have hadd : (⟨w.heap.size, 0, none⟩ : Addr).add j = ⟨w.heap.size, 0 + j, none⟩ := by unfold Addr.add; split <;> simp_all
  rw [hadd, (Blk.new w _ _).cell, Nat.zero_add]
  have hj2 : j < 1 := hj
  obtain rfl : j = 0 := by omega
  show some _ = some (Value.int .u8 ((UInt8.ofNat z.toNat).toNat : Int))
  rw [show ((UInt8.ofNat z.toNat).toNat : Int) = z from by simp; omega]
  rfl
set_option maxHeartbeats 800000 in
theorem mark_text (k : Nat) (h0 : 0 < k) (h1 : k ≤ 400000000) (w : World) : Calls Try.prog 45 #[.int .i64 k] w fun e w' => e = .returned (.string (mtext k)) ∧ Below w.heap.size w w' := by
  have hk : ¬ ((k : Int) ≤ 0) := by omega
  go_enter Try.func45, Try.ntmps45
  go_wp2
  go_loopw [0, 3] (fun kv o wr => ∃ (f n : Nat) (acc : List UInt8) (S : ByteArray), kv = .int .i64 n ∧ n ≤ f ∧ o = .string S ∧ Hid (S = mk acc) ∧ Hid (mt f n acc = mt k k []) ∧ S.size + n ≤ k ∧ Below w.heap.size w wr) (fun kv _ _ => (intOf kv).toNat)
  case atStart => exact ⟨k, k, [], ⟨#[]⟩, rfl, by omega, rfl, Lib.hid rfl, Lib.hid rfl, by show 0 + k ≤ k; omega, Below.refl _ _⟩
  case round =>
    obtain ⟨f, n, acc, S, rfl, hf, rfl, hS, hm, hsz, hb⟩ := hrel
    have B := Lib.hid hb
    clear hb
    by_cases hn : 0 < n
    · obtain ⟨f, rfl⟩ : ∃ g, f = g + 1 := ⟨f - 1, by omega⟩
      have HM := Lib.hid ((mt_step f n acc hn).symm.trans hm.out)
      have hz0 : (0 : Int) ≤ 48 + (n : Int) % 10 := by omega
      have hz1 : 48 + (n : Int) % 10 ≤ 255 := by omega
      have hcv := fun w => conv_one (48 + (n : Int) % 10) hz0 hz1 w
      have HZ := Lib.hid (show (48 + (n : Int) % 10).toNat = 48 + n % 10 from by omega)
      have hs1 : (mk [UInt8.ofNat (48 + (n : Int) % 10).toNat]).size = 1 := rfl
      have HA := Lib.hid (show mk [UInt8.ofNat (48 + (n : Int) % 10).toNat] ++ S = mk (UInt8.ofNat (48 + n % 10) :: acc) from by rw [hS.out, mk_append, HZ.out]; rfl)
      generalize mk [UInt8.ofNat (48 + (n : Int) % 10).toNat] = U at hcv hs1 HA
      have hs2 : (U ++ S).size = S.size + 1 := by rw [← bl_len, bl_append, List.length_append, bl_len, bl_len]; omega
      clear hm hS
      go_wp2
      go_roundw
      case rel => exact ⟨f, n / 10, UInt8.ofNat (48 + n % 10) :: acc, U ++ S, by go_num, by omega, rfl, HA, HM, by omega, B.out.alloc B.out.size _⟩
      case measure => simp [intOf]; omega
    · obtain rfl : n = 0 := by omega
      have HE := Lib.hid (show mtext k = mk [109] ++ S from by
        unfold mtext
        rw [← hm.out, mt_zero, hS.out, mk_append]
        rfl)
      clear hm hS
      go_wp2
      go_ret
      exact ⟨by rw [HE.out]; rfl, B.out⟩
def rmarks (k : Nat) (n : Nat) : List Rec := (List.range n).map fun i => (((k + 2 * i : Nat) : Int), mtext (k + 2 * i + 1))
theorem rmarks_len (k n : Nat) : (rmarks k n).length = n := by simp [rmarks]
theorem rmarks_get (k n j : Nat) (h : j < n) : (rmarks k n)[j]? = some (((k + 2 * j : Nat) : Int), mtext (k + 2 * j + 1)) := by
  unfold rmarks
  rw [List.getElem?_map, List.getElem?_range h]
  rfl
def MarkRPost (A : Option Addr) (n c : Nat) (k : Nat) (base : Nat) (w : World) (e : Ending) (w' : World) : Prop :=
  e = .returned (.int .i64 ((k + 2 * n : Nat) : Int)) ∧ Own w' base 33 2 A n c (recs (rmarks k n)) ∧ ∃ row, w.grownBy w' row ∧ ∀ g, row = some g → ∃ a, A = some a ∧ a.block = g
set_option maxHeartbeats 800000 in
theorem mark_recs (A : Option Addr) (n c : Nat) (k : Nat) (base : Nat) (l : List Rec) (w : World) (ho : Own w base 33 2 A n c (recs l)) (hk : k ≤ 100000000) (hm : n ≤ 1048576) :
    Calls Try.prog 26 #[.slice A n c, .int .i64 k] w (MarkRPost A n c k base w) := by
  have HL := Lib.hid (by have := ho.len; rw [recs_len] at this; omega : l.length = n)
  have HO := Lib.hid ho; clear ho
  by_cases hn : n = 0
  · subst hn
    go_enter Try.func26, Try.ntmps26
    go_wp2
    go_rounds 1
    go_ret
    have hz : l = [] := List.eq_nil_of_length_eq_zero HL.out
    subst hz
    exact ⟨rfl, HO.out, none, World.grownBy.refl w _, fun _ e => by cases e⟩
  · obtain ⟨g, rfl⟩ := HO.out.some_of hn
    go_enter Try.func26, Try.ntmps26
    go_wp2
    go_loopw [1, 5] (fun kv i wr => ∃ (j : Nat) (ys : List Rec), j ≤ n ∧ i = .int .i64 j ∧ kv = .int .i64 ((k + 2 * j : Nat) : Int) ∧ Own wr base 33 2 (some ⟨g, 0, none⟩) n c (recs ys) ∧ Hid (ys.length = n) ∧ Hid (ys.take j = (rmarks k n).take j) ∧ w.grownBy wr (some g)) (fun _ i _ => n - (intOf i).toNat)
    case atStart => exact ⟨0, l, by omega, rfl, rfl, HO.out, HL, Lib.hid rfl, World.grownBy.refl w _⟩
    case round =>
      obtain ⟨j, ys, hj, rfl, rfl, ho, hyl, hyt, hg⟩ := hrel
      have HO2 := Lib.hid ho
      have HG := Lib.hid hg
      clear ho hg
      obtain ⟨K, hK⟩ : ∃ K, K = k + 2 * j := ⟨_, rfl⟩
      have hKb : K ≤ 300000000 := by omega
      rw [← hK]
      have HK := Lib.hid hK
      clear hK
      by_cases hlt : j < n
      · have hjl : j < ys.length := by rw [hyl.out]; exact hlt
        obtain ⟨y, hy⟩ := fget_of_lt hjl
        have f1 := HO2.out.fcell (j * 2) (flat_at recC_len hy (j := 0) rfl)
        have f2 := HO2.out.fcell (j * 2 + 1) (flat_at recC_len hy (j := 1) rfl)
        have f3 := HO2.out.ffroz (j * 2)
        have f4 := HO2.out.ffroz (j * 2 + 1)
        have w1 := IntWalk.i64_in ((K : Int) + 1) (by omega)
        have MT := Lib.hid (fun w => (by have := mark_text (K + 1) (by omega) (by omega) w; simpa using this : Calls Try.prog 45 #[.int .i64 ((K : Int) + 1)] w fun e w' => e = .returned (.string (mtext (K + 1))) ∧ Below w.heap.size w w'))
        have HX := Lib.hid (HO2.out.fput (j * 2) (.int .i64 (K : Int)))
        have HXG := Lib.hid (gb_setCell HG.out (p := ⟨g, j * 2, none⟩) (.inl rfl) (.int .i64 (K : Int)))
        obtain ⟨y1, y2⟩ := y
        have hyc : (recs ys)[j * 2 + 1]? = some (.string y2) := flat_at recC_len hy (j := 1) rfl
        clear hy
        go_wp2_with fail
        refine (MT.out _).mono ?_
        rintro e w2 ⟨rfl, b2⟩
        have HO3 := Lib.hid (HX.out.below b2 (Nat.le_refl _))
        have HG3 := Lib.hid (gb_below HXG.out b2 HXG.out.size)
        have f5 := HO3.out.fcell (j * 2 + 1) (u := .string y2) (by rw [List.getElem?_set_ne (by omega)]; exact hyc)
        have f6 := HO3.out.ffroz (j * 2 + 1)
        clear b2 f1 f2 f3 f4 MT
        go_wp2
        go_roundw
        case rel =>
          refine ⟨j + 1, ys.set j ((K : Int), mtext (K + 1)), by omega, by go_num, by rw [show k + 2 * (j + 1) = K + 2 from by have := HK.out; omega]; go_num, ?_, Lib.hid (by rw [List.length_set]; exact hyl.out), Lib.hid ?_, gb_setCell HG3.out (.inl rfl) _⟩
          · unfold recs
            rw [← flat_setMany recC_len ys j _ hjl]
            exact HO3.out.fput (j * 2 + 1) _
          · rw [ftake_set ys j _ hjl, hyt.out, ftake_succ (rmarks_get k n j hlt), HK.out]
        case measure => simp [intOf]; omega
      · go_wp2
        go_ret
        have h1 : ys = rmarks k n := ftake_all hyt.out hyl.out (rmarks_len k n) (by omega)
        rw [h1] at HO2
        exact ⟨ret_int (by have := HK.out; omega), HO2.out, some g, HG.out, fun g' e => ⟨_, rfl, by injection e⟩⟩
set_option maxHeartbeats 800000 in
theorem held_recs (A : Option Addr) (n c : Nat) (k : Nat) (w : World) (hA : Sl w w.heap.size A (recs (rmarks k n))) (hk : k ≤ 100000000) (hm : n ≤ 1048576) :
    Calls Try.prog 27 #[.slice A n c, .int .i64 k] w fun e w' => e = .returned (.int .i64 ((k + 2 * n : Nat) : Int)) ∧ Below w.heap.size w w' := by
  have HA := Lib.hid hA; clear hA
  go_enter Try.func27, Try.ntmps27
  go_wp2
  go_loopw [1, 5] (fun kv i wr => ∃ j : Nat, j ≤ n ∧ i = .int .i64 j ∧ kv = .int .i64 ((k + 2 * j : Nat) : Int) ∧ Below w.heap.size w wr) (fun _ i _ => n - (intOf i).toNat)
  case atStart => exact ⟨0, by omega, rfl, rfl, Below.refl _ _⟩
  case round =>
    obtain ⟨j, hj, rfl, rfl, hb⟩ := hrel
    have B := Lib.hid hb
    clear hb
    by_cases hlt : j < n
    · obtain ⟨b, off, rfl, hb, e1, e2⟩ := recs_elem ((HA.out.below B.out (Nat.le_refl _)).more B.out.size) (rmarks_get k n j hlt)
      obtain ⟨K, hK⟩ : ∃ K, K = k + 2 * j := ⟨_, rfl⟩
      have hKb : K ≤ 300000000 := by omega
      rw [← hK] at e1 e2 ⊢
      have HK := Lib.hid hK
      clear hK
      have w1 := IntWalk.i64_in ((K : Int) + 1) (by omega)
      have w2 := IntWalk.i64_in ((K : Int) + 1 + 1) (by omega)
      have MT := Lib.hid (fun w => (by have := mark_text (K + 1) (by omega) (by omega) w; simpa using this : Calls Try.prog 45 #[.int .i64 ((K : Int) + 1)] w fun e w' => e = .returned (.string (mtext (K + 1))) ∧ Below w.heap.size w w'))
      generalize mtext (K + 1) = M at e2 MT
      go_wp2
      go_region_held3 (fun w' => w'.cell? ⟨b, off + j * 2 + 1, none⟩ = some (.string M)) (first | exact e2 | exact t2 | go_keep)
        (first | (go_at_call 45; refine (MT.out _).mono ?_; rintro e w5 ⟨rfl, b5⟩; have t2 := (bcell b5).1 b (off + j * 2 + 1) hb; have t2 := t2.trans e2; have B5 := Lib.hid (bstep B.out.drew b5 B.out.size); clear b5))
      go_wp2
      go_roundw
      case rel => exact ⟨j + 1, by omega, by go_num, by rw [show k + 2 * (j + 1) = K + 2 from by have := HK.out; omega]; go_num, B5.out⟩
      case measure => simp [intOf]; omega
    · go_wp2
      go_ret
      exact ⟨ret_int (by omega), B.out⟩
end Go.Proofs.Ytmphkogaclfjmaa
