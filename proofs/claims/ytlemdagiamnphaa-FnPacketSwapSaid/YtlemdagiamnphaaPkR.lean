/-
  What DrawPacketPut and DrawPacketGet return; what the laws on packets need. Condition: the code is a slice of bytes.
-/
import Derived.Test.YtlemdagiamnphaaDrawQ
import Derived.Test.YtlemdagiamnphaaDrawG
import Derived.Test.YtlemdagiamnphaaPkH
import Derived.Test.YtlemdagiamnphaaPkM
import Derived.Test.YtlemdagiamnphaaDraw
namespace Go.Proofs.Ytlemdagiamnphaa
open Go.ChangeShapes Go.WideShapes Go.ChangeAt Go.RowKit
set_option linter.unusedVariables false
set_option linter.unusedSimpArgs false

def PackDr (w : World) (e : Ending) (w' : World) : Prop :=
  ∃ (f t q : Int) (A : Option Addr) (n c : Nat) (l : List Chk), e = .returned (packV f t q A n c) ∧ l.length = n ∧ n ≤ 12 ∧ Bods l ∧ Own w' w.heap.size 46 3 A n c (chks l) ∧ Below w.heap.size w w'
def TextP (m : Nat) (w : World) (e : Ending) (w' : World) : Prop := ∃ s : ByteArray, e = .returned (.string s) ∧ s.size ≤ m ∧ Below w.heap.size w w'
theorem packPut_max (f t g : Int) (l : List Chk) : (packPut f t g l).size ≤ 400 := by
  by_cases h : packB f t g l = true
  · obtain ⟨h1, h2⟩ := packB_true h
    have h3 := restBytes_len l h2
    rw [packPut_yes h, mk_size]
    unfold packBytes
    rw [List.length_append, List.length_append, headBytes_len, long_len]
    omega
  · rw [packPut_no (by simpa using h)]
    exact Nat.zero_le _
theorem gotten_len {l : List UInt8} {f t g k : Int} {cs : List Chk} (h : gotten l = (f, t, g, cs, k)) : cs.length ≤ 4 := by
  by_cases hk : packCode l = 0
  · obtain ⟨_, _, ds, hd, hp⟩ := good_inv hk
    obtain ⟨_, _, _, e, _⟩ := gotten_yes h hk hd
    rw [e]
    exact (packB_true hp).1.2.2.2.2.2.2.2.2
  · obtain ⟨_, _, _, e, _⟩ := gotten_no h hk
    rw [e]
    exact Nat.zero_le _
theorem gotten_code {l : List UInt8} {f t g k : Int} {cs : List Chk} (h : gotten l = (f, t, g, cs, k)) : k = packCode l := by
  by_cases hk : packCode l = 0
  · obtain ⟨_, _, ds, hd, hp⟩ := good_inv hk
    rw [(gotten_yes h hk hd).2.2.2.2, hk]
  · exact (gotten_no h hk).2.2.2.2
theorem gotten_put {f t g : Int} {l : List Chk} (h : packB f t g l = true) : gotten (packBytes f t g l) = (f, t, g, l, 0) := by
  obtain ⟨h1, h2, h3, h4, h5⟩ := put_back h
  unfold gotten
  rw [if_pos h1, h2, h3, h4, h5]
  rfl
theorem gotten_back {s : ByteArray} {f t g : Int} {cs : List Chk} (h : gotten (bl s) = (f, t, g, cs, 0)) : packPut f t g cs = s ∧ Bods cs := by
  have hk := (gotten_code h).symm
  obtain ⟨_, _, ds, hd, hp⟩ := good_inv hk
  obtain ⟨h1, h2, h3, h4, _⟩ := gotten_yes h hk hd
  subst h1 h2 h3 h4
  obtain ⟨g1, g2⟩ := good_back hk hd
  exact ⟨by rw [packPut_yes g1, g2, mk_bl], allB_bods (packB_true g1).2⟩
theorem gotten_zero {l : List UInt8} {f t g k : Int} {cs : List Chk} (h : gotten l = (f, t, g, cs, k)) (hk : k ≠ 0) : f = 0 ∧ t = 0 ∧ g = 0 ∧ cs = [] := by
  have := gotten_no h (by rw [← gotten_code h]; exact hk)
  exact ⟨this.1, this.2.1, this.2.2.1, this.2.2.2.1⟩
theorem code_one {l : List UInt8} : packCode l = 1 ↔ l.length < 12 := by
  constructor
  · intro h
    by_cases h1 : l.length < 12
    · exact h1
    · unfold packCode at h
      rw [if_neg h1] at h
      split at h
      · cases h
      · split at h
        · cases h
        · split at h <;> cases h
  · exact code_short
set_option maxHeartbeats 800000 in
theorem draw_pack_put (A0 : Option Addr) (n0 c0 : Nat) (w : World) (h : Bts w A0 n0 c0) : Calls Try.prog 18 #[.slice A0 n0 c0] w (PackDr w) := by
  have H := Lib.hid h; clear h
  have Q0 := Lib.hid (Blk.new w #[.int .i64 0, .int .i64 0, .int .i64 0, .slice none 0 0] 26)
  have B0 := Lib.hid ((Below.refl w.heap.size w).alloc (Nat.le_refl _) (.cells #[.int .i64 0, .int .i64 0, .int .i64 0, .slice none 0 0] 26))
  go_enter Try.func18, Try.ntmps18
  go_wp2_with fail
  generalize w.alloc (.cells #[.int .i64 0, .int .i64 0, .int .i64 0, .slice none 0 0] 26) = w0 at Q0 B0 ⊢
  refine (opened _ _ _ _ (H.out.below B0.out)).mono ?_
  rintro e w1 ⟨rfl, r1, b1, s1⟩
  have B1 := Lib.hid (bstep B0.out b1 B0.out.size)
  have Q1 := Lib.hid (Q0.out.below b1 Q0.out.lt)
  have h1 := r1.lt
  have hb0 := B0.out.size
  have hb1 := b1.size
  have hq0 := Q0.out.lt
  clear b1 s1
  go_wp2_with fail
  refine (pack_drawn _ _ _ r1 (by omega)).mono ?_
  rintro e w2 ⟨f, t, q, A, n, c, l, rfl, hl, hn, hbo, o2, r2, g2⟩
  have O2 := Lib.hid (o2.lower (show w.heap.size ≤ w1.heap.size by omega))
  have HL := Lib.hid hl
  have HB := Lib.hid hbo
  have B2 := Lib.hid (B1.out.grown g2 (by omega) (fun k hk => by injection hk; omega))
  have Q2 := Lib.hid (Q1.out.grown g2 (fun e => by injection e; omega))
  have x0 : w2.cell? ⟨w.heap.size, 0, none⟩ = some (.int .i64 0) := Q2.out.get 0 rfl
  have x1 : w2.cell? ⟨w.heap.size, 1, none⟩ = some (.int .i64 0) := Q2.out.get 1 rfl
  have x2 : w2.cell? ⟨w.heap.size, 2, none⟩ = some (.int .i64 0) := Q2.out.get 2 rfl
  have x3 : w2.cell? ⟨w.heap.size, 3, none⟩ = some (.slice none 0 0) := Q2.out.get 3 rfl
  have f0 := Q2.out.frozen 0
  have f1 := Q2.out.frozen 1
  have f2 := Q2.out.frozen 2
  have f3 := Q2.out.frozen 3
  have hl2 := Q2.out.lt
  clear hl hbo o2 g2 r2
  go_wp2
  have hnb := O2.out.ne_blk Q2.out (by decide)
  refine bodyPost_ret (v := packV f t q A n c) (by simp [results, Try.results18, go_sem, x0, x1, x2, x3, hl2, packV]) rfl ⟨f, t, q, A, n, c, l, rfl, HL.out, hn, HB.out.bods, (((O2.out.set_ne hnb _).set_ne hnb _).set_ne hnb _).set_ne hnb _, (((B2.out.setCell (Nat.le_refl _) _).setCell (Nat.le_refl _) _).setCell (Nat.le_refl _) _).setCell (Nat.le_refl _) _⟩
set_option maxHeartbeats 1600000 in
set_option maxRecDepth 100000 in
theorem draw_pack_get (A0 : Option Addr) (n0 c0 : Nat) (w : World) (h : Bts w A0 n0 c0) : Calls Try.prog 10 #[.slice A0 n0 c0] w (TextP 401 w) := by
  have H := Lib.hid h; clear h
  go_enter Try.func10, Try.ntmps10
  go_wp2_with fail
  refine (opened _ _ _ _ H.out).mono ?_
  rintro e w1 ⟨rfl, r1, b1, s1⟩
  have B1 := Lib.hid b1
  have h1 := r1.lt
  have hb1 := b1.size
  clear b1 s1
  go_wp2_with fail
  refine (pack_drawn _ _ _ r1 (by omega)).mono ?_
  rintro e w2 ⟨f, t, q, A, n, c, l, rfl, hl, hn, hbo, o2, r2, g2⟩
  have B2 := Lib.hid (B1.out.grown g2 hb1 (fun k hk => by injection hk; omega))
  have hmx := packPut_max f t q l
  have SC := Lib.hid (spack_put f t q A n c l w2 o2.sl hl (by omega) hbo.bods)
  have h2 := r2.lt
  clear hl hbo o2 g2 r1
  generalize packPut f t q l = S at hmx SC
  go_wp2_with fail
  refine SC.out.mono ?_
  rintro e w3 ⟨rfl, b3⟩
  have r3 := r2.below b3 (Nat.le_refl _)
  have B3 := Lib.hid (bstep B2.out b3 B2.out.size)
  clear b3 SC r2
  go_wp2_with fail
  refine (spoil_any _ _ _ _ r3 (by omega) (by omega)).mono ?_
  rintro e w4 ⟨s, rfl, hsz, r4, g4⟩
  have B4 := Lib.hid (B3.out.grown g4 B3.out.size (fun k hk => by injection hk; omega))
  clear g4 r3
  by_cases h12 : s.size < 12
  · go_wp2
    go_ret
    exact ⟨s, rfl, by omega, B4.out⟩
  · have h12' : ¬ ((s.size : Int) < 12) := by omega
    go_wp2_with fail
    refine (pick_pos _ _ _ _ r4 (by omega) (by omega)).mono ?_
    rintro e w5 ⟨k, rfl, k0, k1, r5, g5, s5⟩
    have B5 := Lib.hid (B4.out.grown g5 B4.out.size (fun k hk => by injection hk; omega))
    clear g5 s5 r4
    by_cases hk : k = 0
    · subst hk
      have i1 : (0 : Int) ≤ 8 := by omega
      have i2 : (8 : Int) ≤ (s.size : Int) := by omega
      have i3 : (0 : Int) ≤ 12 := by omega
      have i4 : (12 : Int) ≤ (s.size : Int) := by omega
      have z1 : (s.extract 0 8).size = 8 := by rw [ByteArray.size_extract]; omega
      have z2 : (s.extract 12 s.size).size = s.size - 12 := by rw [ByteArray.size_extract]; omega
      obtain ⟨K, hK⟩ : ∃ K, K = getSum (bl s) := ⟨_, rfl⟩
      have hKl : K < 4294967296 := by rw [hK]; exact sumOf_lt _
      have ST := Lib.hid (fun w => (by rw [hK]; exact l13sum s (by omega) (by omega) w : Calls Try.prog 25 #[.string s] w fun e w' => e = .returned (.int .i64 (K : Int)) ∧ Below w.heap.size w w'))
      obtain ⟨V, hV⟩ : ∃ V, V = mk (long K) := ⟨_, rfl⟩
      have CV := Lib.hid (fun w => (by rw [hV]; have := l1long (K : Int) (by omega) (by omega) w; simpa using this : Calls Try.prog 24 #[.int .i64 (K : Int)] w fun e w' => e = .returned (.string V) ∧ Below w.heap.size w w'))
      have zV : V.size = 4 := by rw [hV]; rfl
      have z4 := bsize (s.extract 0 8) V
      have z5 := bsize (s.extract 0 8 ++ V) (s.extract 12 s.size)
      have hB1 := fun w : World => run_string_add_sum (P := Try.prog) (w := w) (s.extract 0 8) V (by omega)
      have hB2 := fun w : World => run_string_add_sum (P := Try.prog) (w := w) (s.extract 0 8 ++ V) (s.extract 12 s.size) (by omega)
      have hB : ¬ ((9223372036854775807 : Nat) < 8 + 4 + (s.size - 12)) := by omega
      have HZ := Lib.hid (show (s.extract 0 8 ++ V ++ s.extract 12 s.size).size ≤ 401 from by omega)
      clear z4 z5 hK hV
      go_wp2
      go_region_with (first
        | (go_at_call 25; refine (ST.out _).mono ?_; rintro e w6 ⟨rfl, b6⟩; have B6 := Lib.hid (bstep B5.out.drew b6 B5.out.size); clear b6)
        | (go_at_call 24; refine (CV.out _).mono ?_; rintro e w7 ⟨rfl, b7⟩; have B7 := Lib.hid (bstep B6.out b7 B6.out.size); clear b7))
      all_goals
        go_wp2
        go_ret
        exact ⟨_, rfl, HZ.out, B7.out⟩
    · have e0 : (k == 0) = false := by simpa using hk
      go_wp2
      go_ret
      exact ⟨s, rfl, by omega, B5.out⟩
/-! ### Texts that were changed -/
theorem set_str {s : ByteArray} {k : Nat} (hk : k < s.size) (c : UInt8) : bl (s.extract 0 k ++ mk [c] ++ s.extract (k + 1) s.size) = (bl s).set k c := by
  rw [bl_append, bl_append, bl_extract, bl_extract, bl_mk, List.set_eq_take_append_cons_drop, if_pos (by rw [bl_len]; exact hk)]
  have e : ((bl s).drop (k + 1)).take (s.size - (k + 1)) = (bl s).drop (k + 1) := List.take_of_length_le (by rw [List.length_drop, bl_len]; exact Nat.le_refl _)
  rw [e]
  simp
theorem swap_str {s : ByteArray} {k : Nat} (hk : k + 1 < s.size) {c d : UInt8} (hc : (bl s)[k]? = some c) (hd : (bl s)[k + 1]? = some d) : bl s = (bl s).take k ++ c :: d :: (bl s).drop (k + 2) ∧
    bl (s.extract 0 k ++ s.extract (k + 1) (k + 2) ++ s.extract k (k + 1) ++ s.extract (k + 2) s.size) = (bl s).take k ++ d :: c :: (bl s).drop (k + 2) := by
  obtain ⟨h0, e0⟩ := List.getElem?_eq_some_iff.1 hc
  obtain ⟨h1, e1⟩ := List.getElem?_eq_some_iff.1 hd
  have d0 : (bl s).drop k = c :: (bl s).drop (k + 1) := by
    rw [List.drop_eq_getElem_cons h0]
    exact congrArg (· :: _) e0
  have d1 : (bl s).drop (k + 1) = d :: (bl s).drop (k + 2) := by
    rw [List.drop_eq_getElem_cons h1]
    exact congrArg (· :: _) e1
  refine ⟨?_, ?_⟩
  · conv => lhs; rw [← List.take_append_drop k (bl s)]
    rw [d0, d1]
  · simp only [bl_append, bl_extract]
    have e : ((bl s).drop (k + 2)).take (s.size - (k + 2)) = (bl s).drop (k + 2) := List.take_of_length_le (by rw [List.length_drop, bl_len]; exact Nat.le_refl _)
    rw [e, d1, d0, show k + 2 - (k + 1) = 1 from by omega, show k + 1 - k = 1 from by omega]
    simp
end Go.Proofs.Ytlemdagiamnphaa
