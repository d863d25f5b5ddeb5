/-
  What the drawing functions of texts and records return. Condition: the reader can be read.
-/
import Derived.Test.YtlemdagiamnphaaCapE
import Derived.Test.YtlemdagiamnphaaDraw
import Derived.Laws.IdiomStrings
import Derived.Deep.DeepCutAuto
namespace Go.Proofs.Ytlemdagiamnphaa
open Go.ChangeShapes Go.WideShapes Go.ChangeAt Go.RowKit
set_option linter.unusedVariables false

theorem goodw_any (g : Nat) (w : World) (L : Nat) (hr : RdB w g L) (hL : L ≤ 900000) : Calls Try.prog 57 #[.pointer (some ⟨g, 0, none⟩)] w (NumP 0 65535 g (L + 4) w) := by
  go_enter Try.func57, Try.ntmps57
  go_wp2_with fail
  refine (word_any _ _ _ hr hL).mono ?_
  rintro e w1 ⟨k, rfl, k0, k1, r1, g1⟩
  go_wp2
  all_goals
    go_ret
    exact ⟨_, rfl, by omega, by omega, r1, g1⟩
theorem long_any (g : Nat) (w : World) (L : Nat) (hr : RdB w g L) (hL : L ≤ 800000) : Calls Try.prog 44 #[.pointer (some ⟨g, 0, none⟩)] w (NumP (-1) 4294967296 g (L + 9) w) := by
  go_enter Try.func44, Try.ntmps44
  go_wp2_with fail
  refine (pick_pos _ _ _ _ hr (by omega) (by omega)).mono ?_
  rintro e w1 ⟨k, rfl, k0, k1, r1, g1, s1⟩
  have G1 := Lib.hid g1
  clear g1 s1
  by_cases h0 : k = 0
  · subst h0
    go_wp2_with fail
    refine (pick_pos _ _ _ _ (r1.alloc _) (by omega) (by omega)).mono ?_
    rintro e w2 ⟨j, rfl, j0, j1, r2, g2, s2⟩
    have hq : Blk w2 w1.heap.size ([-1, 0, 4294967295, 4294967296].map (Value.int .i64)).toArray 3 := (Blk.new w1 _ _).grown g2 (fun e => by have := r1.lt; injection e; omega)
    obtain ⟨v, hv, hc⟩ := lit_get _ hq j j0 (by simpa using j1)
    have G2 := Lib.hid (gb_trans (gb_alloc G1.out _) g2 (fun k hk => .inl hk))
    have hv2 : -1 ≤ v ∧ v ≤ 4294967296 := by simp at hv; omega
    clear hq g2 s2 hv
    go_wp2
    go_ret
    exact ⟨v, rfl, hv2.1, hv2.2, r2.mono (by omega), G2.out⟩
  · have e0 : (k == 0) = false := by simpa using h0
    clear h0
    go_wp2_with fail
    refine (goodw_any _ _ _ r1 (by omega)).mono ?_
    rintro e w2 ⟨a, rfl, a0, a1, r2, g2⟩
    have G2 := Lib.hid (gb_trans G1.out g2 (fun k hk => .inl hk))
    clear g2
    go_wp2_with fail
    refine (goodw_any _ _ _ r2 (by omega)).mono ?_
    rintro e w3 ⟨b, rfl, b0, b1, r3, g3⟩
    have G3 := Lib.hid (gb_trans G2.out g3 (fun k hk => .inl hk))
    clear g3
    go_wp2
    go_ret
    exact ⟨_, rfl, by omega, by omega, r3.mono (by omega), G3.out⟩
theorem many_step {o p m C : Nat} (h : o + p * m ≤ C) : (m % 2 = 1 → o + p + (p + p) * (m / 2) ≤ C) ∧ (m % 2 = 0 → o + (p + p) * (m / 2) ≤ C) := by
  have e : (p + p) * (m / 2) = p * (2 * (m / 2)) := by rw [Nat.mul_comm 2, ← Nat.mul_assoc, Nat.mul_two, Nat.add_mul]
  rw [e]
  constructor
  · intro h1
    have : p * m = p * (2 * (m / 2)) + p := by
      conv => lhs; rw [show m = 2 * (m / 2) + 1 from by omega]
      rw [Nat.mul_add, Nat.mul_one]
    omega
  · intro h1
    have : p * m = p * (2 * (m / 2)) := by
      conv => lhs; rw [show m = 2 * (m / 2) from by omega]
    omega
theorem many_le {o p m C : Nat} (h : o + p * m ≤ C) (hm : 0 < m) : o + p ≤ C := Nat.le_trans (Nat.add_le_add_left (Nat.le_mul_of_pos_right p hm) o) h
theorem ba_app_size (a b : ByteArray) : (a ++ b).size = a.size + b.size := by rw [← bl_len, bl_append, List.length_append, bl_len, bl_len]
def TextLe (m : Nat) (e : Ending) : Prop := ∃ s : ByteArray, e = .returned (.string s) ∧ s.size ≤ m
set_option maxHeartbeats 800000 in
theorem many_any (s : ByteArray) (n : Nat) (C : Nat) (hs : s.size * n ≤ C) (hn9 : n ≤ 1000) (hs2 : s.size ≤ 1000) (hC : C ≤ 1000) (w : World) : Calls Try.prog 56 #[.string s, .int .i64 n] w fun e w' => TextLe C e ∧ w = w' := by
  by_cases hn : n = 0
  · subst hn
    go_enter Try.func56, Try.ntmps56
    go_wp2
    go_rounds 1
    go_ret
    exact ⟨⟨_, rfl, by show 0 ≤ C; omega⟩, rfl⟩
  go_enter Try.func56, Try.ntmps56
  go_wp2
  go_loop [0, 1, 5] (fun p i o => ∃ (m : Nat) (P O : ByteArray), m ≤ n ∧ i = .int .i64 m ∧ p = .string P ∧ o = .string O ∧ Hid (O.size + P.size * m ≤ C) ∧ P.size ≤ 3000 ∧ O.size ≤ C) (fun _ i _ => (intOf i).toNat)
  case atStart => exact ⟨n, s, ⟨#[]⟩, Nat.le_refl _, rfl, rfl, rfl, Lib.hid (by show 0 + s.size * n ≤ C; omega), by omega, by show 0 ≤ C; omega⟩
  case round =>
    obtain ⟨m, P, O, hm, rfl, rfl, rfl, h1, h2, h3⟩ := hrel
    by_cases h0 : 0 < m
    · have hle := many_le h1.out h0
      by_cases hodd : m % 2 = 1
      · have h4 := Lib.hid ((many_step h1.out).1 hodd)
        have z1 := ba_app_size O P
        have z2 := ba_app_size P P
        have Z1 := Lib.hid z1
        have Z2 := Lib.hid z2
        have zz1 : (O ++ P).size ≤ C := by omega
        have zz2 : (P ++ P).size ≤ 3000 := by omega
        have o1 : ((m : Int) % 2 == 1) = true := by simp; omega
        clear z1 z2
        go_wp2
        go_round
        case rel => exact ⟨m / 2, P ++ P, O ++ P, by omega, by go_num, rfl, rfl, Lib.hid (by rw [Z1.out, Z2.out]; exact h4.out), zz2, zz1⟩
        case measure => simp [intOf]; omega
      · have h4 := Lib.hid ((many_step h1.out).2 (by omega))
        have z2 := ba_app_size P P
        have Z2 := Lib.hid z2
        have zz2 : (P ++ P).size ≤ 3000 := by omega
        have o1 : ((m : Int) % 2 == 1) = false := by simp; omega
        clear z2
        go_wp2
        go_round
        case rel => exact ⟨m / 2, P ++ P, O, by omega, by go_num, rfl, rfl, Lib.hid (by rw [Z2.out]; exact h4.out), zz2, h3⟩
        case measure => simp [intOf]; omega
    · go_wp2
      go_ret
      exact ⟨⟨O, rfl, h3⟩, rfl⟩
theorem info_u8 : (Try.prog.info? 5).map (fun i => (i.zero, i.size, i.bytes)) = some (some (.int .u8 0), 1, 1) := by kernel_rfl
def u8s (zs : List Int) : List Value := zs.map (Value.int .u8)
theorem u8s_len (zs : List Int) : (u8s zs).length = zs.length := by simp [u8s]
theorem u8s_one (zs : List Int) : ∀ u ∈ u8s zs, u.oneCell' = true := by
  intro u hu
  unfold u8s at hu
  obtain ⟨z, _, rfl⟩ := List.mem_map.1 hu
  rfl
def Byts (zs : List Int) : Prop := ∀ z ∈ zs, 0 ≤ z ∧ z ≤ 255
def toU8 (zs : List Int) : List UInt8 := zs.map fun z => UInt8.ofNat z.toNat
theorem u8s_bytes {zs : List Int} (h : Byts zs) : u8s zs = (toU8 zs).map fun b => Value.int .u8 (b.toNat : Int) := by
  unfold u8s toU8
  rw [List.map_map]
  refine List.map_congr_left fun z hz => ?_
  have := h z hz
  show Value.int .u8 z = Value.int .u8 ((UInt8.ofNat z.toNat).toNat : Int)
  rw [show ((UInt8.ofNat z.toNat).toNat : Int) = z from by simp; omega]
theorem conv_row {w : World} {base n c gg : Nat} {zs : List Int} (h : Own w base 5 1 (some ⟨gg, 0, none⟩) n c (u8s zs)) (hz : Byts zs) (hn : zs.length = n) :
    (convert 22 9 (.slice (some ⟨gg, 0, none⟩) n c)).run Try.prog w = .ok (.string (mk (toU8 zs))) w := by
  have hl : (toU8 zs).length = n := by unfold toU8; rw [List.length_map]; exact hn
  have := run_convert_bytes_back (P := Try.prog) w 22 9 5 ⟨gg, 0, none⟩ c (toU8 zs) Try.underlying22 Try.underlying5 Try.underlying9 (fun j hj => by
    have hadd : (⟨gg, 0, none⟩ : Addr).add j = ⟨gg, j, none⟩ := by unfold Addr.add; split <;> simp_all
    rw [hadd]
    refine h.fcell j ?_
    rw [u8s_bytes hz, List.getElem?_map, List.getElem?_eq_getElem hj]
    rfl)
  rw [hl] at this
  exact this
def BytesP (m g L : Nat) (w : World) (e : Ending) (w' : World) : Prop := ∃ s : ByteArray, e = .returned (.string s) ∧ s.size ≤ m ∧ RdB w' g L ∧ w.grownBy w' (some g)
set_option maxHeartbeats 1600000 in
theorem bytes_any (g : Nat) (w : World) (L : Nat) (m : Nat) (hm : m ≤ 1000) (hr : RdB w g L) (hL : L ≤ 800000) : Calls Try.prog 55 #[.pointer (some ⟨g, 0, none⟩), .int .i64 m] w (BytesP m g (L + 1 + 2 * m) w) := by
  obtain ⟨i0, hi, hz0, hz1, hz2⟩ := info_parts info_u8
  have hgl := hr.lt
  go_enter Try.func55, Try.ntmps55
  go_wp2_with fail
  refine (pick_pos _ _ _ L (hr.alloc _) (by omega) (by omega)).mono ?_
  rintro e w1 ⟨k, rfl, k0, k1, r1, g1, s1⟩
  obtain ⟨k, rfl⟩ := Int.eq_ofNat_of_zero_le k0
  have O1 := Lib.hid ((Own.made w w.heap.size 5 1 #[] 0 (Nat.le_refl _) (by unfold maxLen; omega) rfl).grown g1 (fun a ha e => by injection ha with ha; subst ha; injection e with e; simp at e; omega))
  have G1 := Lib.hid (gb_trans (World.grownBy_alloc w (.cells #[] 5) (some g)) g1 (fun k hk => .inl hk))
  clear g1 s1 k0
  go_wp2
  go_loopw [5, 7] (fun o i wr => ∃ (j : Nat) (zs : List Int) (gg c : Nat), j ≤ k ∧ i = .int .i64 j ∧ o = .slice (some ⟨gg, 0, none⟩) j c ∧ Hid (zs.length = j) ∧ Hid (Byts zs) ∧ Own wr w.heap.size 5 1 (some ⟨gg, 0, none⟩) j c (u8s zs) ∧ RdB wr g (L + 1 + 2 * j) ∧ w.grownBy wr (some g)) (fun _ i _ => k - (intOf i).toNat)
  case atStart => exact ⟨0, [], w.heap.size, 0, by omega, rfl, rfl, Lib.hid rfl, Lib.hid (fun z hz => by simp at hz), O1.out, r1.mono (by omega), G1.out⟩
  case round =>
    obtain ⟨j, zs, gg, c, hj, rfl, rfl, hzl, hzb, ho, hrd, hgr⟩ := hrel
    have O := Lib.hid ho
    have GR := Lib.hid hgr
    clear ho hgr
    by_cases hlt : j < k
    · go_wp2_with fail
      refine (pick_pos _ _ _ _ hrd (by omega) (by omega)).mono ?_
      rintro e w2 ⟨a, rfl, a0, a1, r2, g2, s2⟩
      have O2 := Lib.hid (O.out.grown g2 (fun a ha => fun e => by injection e with e; have := (O.out.blk a ha).1; omega))
      have G2 := Lib.hid (gb_trans GR.out g2 (fun k hk => .inl hk))
      clear g2 s2
      go_wp2_with fail
      refine (pick_pos _ _ _ _ r2 (by omega) (by omega)).mono ?_
      rintro e w3 ⟨b, rfl, b0, b1, r3, g3, s3⟩
      have O3 := Lib.hid (O2.out.grown g3 (fun a ha => fun e => by injection e with e; have := (O2.out.blk a ha).1; omega))
      have G3 := Lib.hid (gb_trans G2.out g3 (fun k hk => .inl hk))
      have hgg := (O3.out.blk _ rfl).2.1
      have ab0 : 0 ≤ a * b := Int.mul_nonneg a0 b0
      have ab1 : a * b ≤ 15 * 17 := Int.mul_le_mul (by omega) (by omega) b0 (by omega)
      have hw3 := G3.out.size
      clear g3 s3
      go_wp2_with (at_builtin; refine wpList_app _ rfl _ _ _ rfl w.heap.size 5 i0 (.int .u8 0) 1 1 Try.underlying22 hi hz0 hz1 hz2 rfl (by decide) (some ⟨gg, 0, none⟩) j c (u8s zs) rfl (O3.out.alloc _) (w3.heap.size + 1) (some ⟨w3.heap.size, 0, none⟩) 1 1 (u8s [a * b]) rfl (sl_new rfl) rfl (u8s_one _) (by unfold maxLen; omega) (by omega) (by simp; omega) ?_; intro A4 c4 row w4 o4 g4 r4 d4; have O4 := Lib.hid o4; have R4 := Lib.hid ((r3.alloc _).grown g4 (fun k hk => by obtain ⟨a, ha, hab⟩ := r4 k hk; have := (O3.out.blk a ha).1; omega)); have G4 := Lib.hid (gb_trans (gb_alloc G3.out _) g4 (fun k hk => .inr (by obtain ⟨a, ha, hab⟩ := r4 k hk; have := (O3.out.blk a ha).1; omega))); clear o4 g4 r4 d4)
      obtain ⟨g4, rfl⟩ := O4.out.some_of (by omega)
      go_roundw
      case rel =>
        refine ⟨j + 1, zs ++ [a * b], g4, c4, by omega, by go_num, rfl, Lib.hid (by rw [List.length_append, hzl.out]; rfl), Lib.hid (fun z hz => ?_), ?_, R4.out.mono (by omega), G4.out⟩
        · rcases List.mem_append.1 hz with hz | hz
          · exact hzb.out z hz
          · simp at hz; omega
        · have h := O4.out
          unfold u8s at h ⊢
          rw [← List.map_append] at h
          exact h
      case measure => simp [intOf]; omega
    · have hcv := conv_row O.out hzb.out hzl.out
      have hle : j ≤ m := by omega
      have HS := Lib.hid (show (mk (toU8 zs)).size ≤ m from by rw [mk_size]; unfold toU8; rw [List.length_map, hzl.out]; exact hle)
      go_wp2
      go_ret
      exact ⟨_, rfl, HS.out, hrd.mono (by omega), GR.out⟩
end Go.Proofs.Ytlemdagiamnphaa
