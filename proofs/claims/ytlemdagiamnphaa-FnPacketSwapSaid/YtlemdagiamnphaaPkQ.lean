/-
  What the reference's PacketPut returns. Conditions: the chunks can be read.
-/
import Derived.Test.YtlemdagiamnphaaPkP
import Derived.Deep.RegionHeld
import Derived.Deep.RegionWith
namespace Go.Proofs.Ytlemdagiamnphaa
open Go.ChangeShapes Go.WideShapes Go.ChangeAt Go.RowKit
set_option linter.unusedVariables false
set_option linter.unusedSimpArgs false

theorem sum_split (s : ByteArray) (h : 12 ≤ s.size) : bl (s.extract 0 8 ++ ⟨#[0, 0, 0, 0]⟩ ++ s.extract 12 s.size) = (bl s).take 8 ++ zeros 4 ++ (bl s).drop 12 := by
  rw [bl_append, bl_append, bl_extract, bl_extract]
  have e1 : ((bl s).drop 12).take (s.size - 12) = (bl s).drop 12 := List.take_of_length_le (by rw [List.length_drop, bl_len]; exact Nat.le_refl _)
  rw [e1]
  rfl
set_option maxHeartbeats 800000 in
theorem l13sum (s : ByteArray) (h : 12 ≤ s.size) (hs : s.size ≤ 1100000) (w : World) : Calls Try.prog 25 #[.string s] w fun e w' => e = .returned (.int .i64 (getSum (bl s) : Nat)) ∧ Below w.heap.size w w' := by
  have i1 : (0 : Int) ≤ 8 := by omega
  have i2 : (8 : Int) ≤ (s.size : Int) := by omega
  have i3 : (0 : Int) ≤ 12 := by omega
  have i4 : (12 : Int) ≤ (s.size : Int) := by omega
  have z1 : (s.extract 0 8).size = 8 := by rw [ByteArray.size_extract]; omega
  have z2 : (s.extract 12 s.size).size = s.size - 12 := by rw [ByteArray.size_extract]; omega
  have z3 : (⟨#[0, 0, 0, 0]⟩ : ByteArray).size = 4 := rfl
  have z4 := bsize (s.extract 0 8) ⟨#[0, 0, 0, 0]⟩
  have z5 := bsize (s.extract 0 8 ++ ⟨#[0, 0, 0, 0]⟩) (s.extract 12 s.size)
  have hA1 := fun w : World => run_string_add_sum (P := Try.prog) (w := w) (s.extract 0 8) ⟨#[0, 0, 0, 0]⟩ (by omega)
  have hA2 := fun w : World => run_string_add_sum (P := Try.prog) (w := w) (s.extract 0 8 ++ ⟨#[0, 0, 0, 0]⟩) (s.extract 12 s.size) (by omega)
  have SN := Lib.hid (fun w => (by
    have := ssum_next (s.extract 0 8 ++ ⟨#[0, 0, 0, 0]⟩ ++ s.extract 12 s.size) (by omega) w
    rw [sum_split s h] at this
    exact this : Calls Try.prog 46 #[.int .i64 1, .string (s.extract 0 8 ++ ⟨#[0, 0, 0, 0]⟩ ++ s.extract 12 s.size)] w (Quiet (.int .i64 (getSum (bl s) : Nat)) w)))
  obtain ⟨N, hN⟩ : ∃ N, N = getSum (bl s) := ⟨_, rfl⟩
  rw [← hN] at SN ⊢
  clear hN
  have hB : ¬ ((9223372036854775807 : Nat) < 8 + 4 + (s.size - 12)) := by omega
  clear z4 z5
  go_enter Try.func25, Try.ntmps25
  go_wp2
  go_region_with (first | (go_at_call 46; refine (SN.out _).mono ?_; rintro e w1 ⟨rfl, m, rfl⟩))
  all_goals
    go_wp2
    go_ret
    first | exact ⟨rfl, below_drewN (Below.refl _ w) _⟩ | exact ⟨rfl, below_drewN ((Below.refl _ w).drew) _⟩
def PutCut (H : ByteArray) (f t g : Int) (A : Option Addr) (n c : Nat) (w : World) (s : Value) (wx : World) : Prop :=
  s = .string H ∧ Blk wx w.heap.size #[.int .i64 f, .int .i64 t, .int .i64 g, .slice A n c] 26 ∧ Below w.heap.size w wx
set_option maxHeartbeats 1600000 in
set_option maxRecDepth 100000 in
theorem l13put (f t g : Int) (A : Option Addr) (n c : Nat) (l : List Chk) (w : World) (hs : Sl w w.heap.size A (chks l)) (hn : l.length = n) (h : packB f t g l = true) :
    Calls Try.prog 41 #[packV f t g A n c] w fun e w' => e = .returned (.string (mk (packBytes f t g l))) ∧ Below w.heap.size w w' := by
  obtain ⟨⟨f1, f2, t1, t2, ft, g1, g2, n1, n2⟩, hall⟩ := packB_true h
  have hn4 : n ≤ 4 := by omega
  have HS := Lib.hid hs; have HN := Lib.hid hn; clear hs hn
  have HALL := Lib.hid hall
  obtain ⟨F, hF⟩ : ∃ F, F = mk (word f.toNat) := ⟨_, rfl⟩
  obtain ⟨D, hD⟩ : ∃ D, D = mk (word t.toNat) := ⟨_, rfl⟩
  obtain ⟨G, hG⟩ : ∃ G, G = mk (long g.toNat) := ⟨_, rfl⟩
  have CF := Lib.hid (fun w => (by rw [hF]; exact l1word f (by omega) f2 w : Calls Try.prog 45 #[.int .i64 f] w fun e w' => e = .returned (.string F) ∧ Below w.heap.size w w'))
  have CT := Lib.hid (fun w => (by rw [hD]; exact l1word t (by omega) t2 w : Calls Try.prog 45 #[.int .i64 t] w fun e w' => e = .returned (.string D) ∧ Below w.heap.size w w'))
  have CG := Lib.hid (fun w => (by rw [hG]; exact l1long g g1 g2 w : Calls Try.prog 24 #[.int .i64 g] w fun e w' => e = .returned (.string G) ∧ Below w.heap.size w w'))
  have zF : F.size = 2 := by rw [hF]; rfl
  have zD : D.size = 2 := by rw [hD]; rfl
  have zG : G.size = 4 := by rw [hG]; rfl
  have HH := Lib.hid (show F ++ D ++ G ++ ⟨#[0, 0, 0, 0]⟩ = mk (headBytes f t g ++ zeros 4) from by rw [hF, hD, hG, mk_append, mk_append, show (⟨#[0, 0, 0, 0]⟩ : ByteArray) = mk (zeros 4) from rfl, mk_append]; rfl)
  have y1 := bsize F D
  have y2 := bsize (F ++ D) G
  have y3 := bsize (F ++ D ++ G) ⟨#[0, 0, 0, 0]⟩
  have y4 : (⟨#[0, 0, 0, 0]⟩ : ByteArray).size = 4 := rfl
  have hA1 := fun w : World => run_string_add_sum (P := Try.prog) (w := w) F D (by omega)
  have hA2 := fun w : World => run_string_add_sum (P := Try.prog) (w := w) (F ++ D) G (by omega)
  have hA3 := fun w : World => run_string_add_sum (P := Try.prog) (w := w) (F ++ D ++ G) ⟨#[0, 0, 0, 0]⟩ (by omega)
  have HHz := Lib.hid (show (F ++ D ++ G ++ ⟨#[0, 0, 0, 0]⟩).size = 12 from by omega)
  clear hF hD hG y1 y2 y3 hall h f1 f2 t1 t2 g1 g2
  have q1 := Blk.new w #[.int .i64 f, .int .i64 t, .int .i64 g, .slice A n c] 26
  have B1 := Lib.hid ((Below.refl w.heap.size w).alloc (Nat.le_refl _) (.cells #[.int .i64 f, .int .i64 t, .int .i64 g, .slice A n c] 26))
  obtain ⟨w1, hw1'⟩ : ∃ w1, w1 = w.alloc (.cells #[.int .i64 f, .int .i64 t, .int .i64 g, .slice A n c] 26) := ⟨_, rfl⟩
  go_enter Try.func41, Try.ntmps41
  go_upto_region 1 with (fail)
  rw [← hw1'] at q1 B1 ⊢
  have x0 : w1.cell? ⟨w.heap.size, 0, none⟩ = some (.int .i64 f) := q1.get 0 rfl
  have x1 : w1.cell? ⟨w.heap.size, 1, none⟩ = some (.int .i64 t) := q1.get 1 rfl
  have x2 : w1.cell? ⟨w.heap.size, 2, none⟩ = some (.int .i64 g) := q1.get 2 rfl
  have Q1 := Lib.hid q1
  have hlw : w.heap.size < w1.heap.size := q1.lt
  clear q1 hw1'
  go_cut [3] (fun s3 wx => PutCut (F ++ D ++ G ++ ⟨#[0, 0, 0, 0]⟩) f t g A n c w s3 wx)
  case first =>
    go_region_held (fun w' => w'.cell? ⟨w.heap.size, 0, none⟩ = some (.int .i64 f) ∧ w'.cell? ⟨w.heap.size, 1, none⟩ = some (.int .i64 t) ∧ w'.cell? ⟨w.heap.size, 2, none⟩ = some (.int .i64 g)) (first | exact ⟨x0, x1, x2⟩ | exact ⟨d0, d1, d2⟩ | exact ⟨b0, b1, b2⟩ | exact ⟨a0, a1, a2⟩ | go_keep)
      (first
        | (go_at_call 45; (with_reducible refine (CF.out (w1.drew)).mono ?_); rintro e wa ⟨rfl, bb⟩; have Qa := Lib.hid (Q1.out.drew.below bb Q1.out.lt); have Ba := Lib.hid (bstep B1.out.drew bb B1.out.size); have a0 : wa.cell? ⟨w.heap.size, 0, none⟩ = some (.int .i64 f) := Qa.out.get 0 rfl; have a1 : wa.cell? ⟨w.heap.size, 1, none⟩ = some (.int .i64 t) := Qa.out.get 1 rfl; have a2 : wa.cell? ⟨w.heap.size, 2, none⟩ = some (.int .i64 g) := Qa.out.get 2 rfl; clear bb)
        | (go_at_call 45; (with_reducible refine (CT.out (w1.drew)).mono ?_); rintro e wa ⟨rfl, bb⟩; have Qa := Lib.hid (Q1.out.drew.below bb Q1.out.lt); have Ba := Lib.hid (bstep B1.out.drew bb B1.out.size); have a0 : wa.cell? ⟨w.heap.size, 0, none⟩ = some (.int .i64 f) := Qa.out.get 0 rfl; have a1 : wa.cell? ⟨w.heap.size, 1, none⟩ = some (.int .i64 t) := Qa.out.get 1 rfl; have a2 : wa.cell? ⟨w.heap.size, 2, none⟩ = some (.int .i64 g) := Qa.out.get 2 rfl; clear bb)
        | (go_at_call 24; (with_reducible refine (CG.out (w1.drew)).mono ?_); rintro e wa ⟨rfl, bb⟩; have Qa := Lib.hid (Q1.out.drew.below bb Q1.out.lt); have Ba := Lib.hid (bstep B1.out.drew bb B1.out.size); have a0 : wa.cell? ⟨w.heap.size, 0, none⟩ = some (.int .i64 f) := Qa.out.get 0 rfl; have a1 : wa.cell? ⟨w.heap.size, 1, none⟩ = some (.int .i64 t) := Qa.out.get 1 rfl; have a2 : wa.cell? ⟨w.heap.size, 2, none⟩ = some (.int .i64 g) := Qa.out.get 2 rfl; clear bb)
        | (go_at_call 45; (with_reducible refine (CF.out wa).mono ?_); rintro e wb ⟨rfl, bb⟩; have Qb := Lib.hid (Qa.out.below bb Qa.out.lt); have Bb := Lib.hid (bstep Ba.out bb Ba.out.size); have b0 : wb.cell? ⟨w.heap.size, 0, none⟩ = some (.int .i64 f) := Qb.out.get 0 rfl; have b1 : wb.cell? ⟨w.heap.size, 1, none⟩ = some (.int .i64 t) := Qb.out.get 1 rfl; have b2 : wb.cell? ⟨w.heap.size, 2, none⟩ = some (.int .i64 g) := Qb.out.get 2 rfl; clear bb)
        | (go_at_call 45; (with_reducible refine (CT.out wa).mono ?_); rintro e wb ⟨rfl, bb⟩; have Qb := Lib.hid (Qa.out.below bb Qa.out.lt); have Bb := Lib.hid (bstep Ba.out bb Ba.out.size); have b0 : wb.cell? ⟨w.heap.size, 0, none⟩ = some (.int .i64 f) := Qb.out.get 0 rfl; have b1 : wb.cell? ⟨w.heap.size, 1, none⟩ = some (.int .i64 t) := Qb.out.get 1 rfl; have b2 : wb.cell? ⟨w.heap.size, 2, none⟩ = some (.int .i64 g) := Qb.out.get 2 rfl; clear bb)
        | (go_at_call 24; (with_reducible refine (CG.out wa).mono ?_); rintro e wb ⟨rfl, bb⟩; have Qb := Lib.hid (Qa.out.below bb Qa.out.lt); have Bb := Lib.hid (bstep Ba.out bb Ba.out.size); have b0 : wb.cell? ⟨w.heap.size, 0, none⟩ = some (.int .i64 f) := Qb.out.get 0 rfl; have b1 : wb.cell? ⟨w.heap.size, 1, none⟩ = some (.int .i64 t) := Qb.out.get 1 rfl; have b2 : wb.cell? ⟨w.heap.size, 2, none⟩ = some (.int .i64 g) := Qb.out.get 2 rfl; clear bb)
        | (go_at_call 45; (with_reducible refine (CF.out wb).mono ?_); rintro e wd ⟨rfl, bb⟩; have Qd := Lib.hid (Qb.out.below bb Qb.out.lt); have Bd := Lib.hid (bstep Bb.out bb Bb.out.size); have d0 : wd.cell? ⟨w.heap.size, 0, none⟩ = some (.int .i64 f) := Qd.out.get 0 rfl; have d1 : wd.cell? ⟨w.heap.size, 1, none⟩ = some (.int .i64 t) := Qd.out.get 1 rfl; have d2 : wd.cell? ⟨w.heap.size, 2, none⟩ = some (.int .i64 g) := Qd.out.get 2 rfl; clear bb)
        | (go_at_call 45; (with_reducible refine (CT.out wb).mono ?_); rintro e wd ⟨rfl, bb⟩; have Qd := Lib.hid (Qb.out.below bb Qb.out.lt); have Bd := Lib.hid (bstep Bb.out bb Bb.out.size); have d0 : wd.cell? ⟨w.heap.size, 0, none⟩ = some (.int .i64 f) := Qd.out.get 0 rfl; have d1 : wd.cell? ⟨w.heap.size, 1, none⟩ = some (.int .i64 t) := Qd.out.get 1 rfl; have d2 : wd.cell? ⟨w.heap.size, 2, none⟩ = some (.int .i64 g) := Qd.out.get 2 rfl; clear bb)
        | (go_at_call 24; (with_reducible refine (CG.out wb).mono ?_); rintro e wd ⟨rfl, bb⟩; have Qd := Lib.hid (Qb.out.below bb Qb.out.lt); have Bd := Lib.hid (bstep Bb.out bb Bb.out.size); have d0 : wd.cell? ⟨w.heap.size, 0, none⟩ = some (.int .i64 f) := Qd.out.get 0 rfl; have d1 : wd.cell? ⟨w.heap.size, 1, none⟩ = some (.int .i64 t) := Qd.out.get 1 rfl; have d2 : wd.cell? ⟨w.heap.size, 2, none⟩ = some (.int .i64 g) := Qd.out.get 2 rfl; clear bb))
    all_goals
      go_wp2_with fail
      go_meet
      exact ⟨rfl, Qd.out, Bd.out⟩
  case rest =>
    obtain ⟨rfl, q2, b2⟩ := hcut
    have Q2 := Lib.hid q2
    have B2 := Lib.hid b2
    clear q2 b2
    go_wp2
    go_loopw [3, 4] (fun s i wr => ∃ (k : Nat) (S : ByteArray), k ≤ n ∧ i = .int .i64 k ∧ s = .string S ∧ Hid (S = mk (headBytes f t g ++ zeros 4 ++ restBytes (l.take k))) ∧ S.size ≤ 12 + 67 * k ∧ 12 ≤ S.size ∧ Blk wr w.heap.size #[.int .i64 f, .int .i64 t, .int .i64 g, .slice A n c] 26 ∧ Below w.heap.size w wr) (fun _ i _ => n - (intOf i).toNat)
    case atStart => exact ⟨0, _, by omega, rfl, rfl, Lib.hid (by rw [HH.out]; simp [restBytes]), by rw [HHz.out]; omega, by rw [HHz.out]; omega, Q2.out, B2.out⟩
    case round =>
      obtain ⟨k, S, hk, rfl, rfl, hS, hSz, hS12, q, hb⟩ := hrel
      have BR := Lib.hid hb
      have Q := Lib.hid q
      have x3 : wr.cell? ⟨w.heap.size, 3, none⟩ = some (.slice A n c) := q.get 3 rfl
      clear hb q
      by_cases hlt : k < n
      · obtain ⟨r, hr⟩ := fget_of_lt (xs := l) (k := k) (by rw [HN.out]; exact hlt)
        obtain ⟨b, off, rfl, hbl, e1, e2, e3⟩ := chks_elem ((HS.out.below BR.out (Nat.le_refl _)).more BR.out.size) hr
        have hcb := HALL.out r (List.mem_of_getElem? hr)
        have HA := Lib.hid (restBytes_take hr)
        have hle := cbytes_le hcb
        obtain ⟨x, y, z⟩ := r
        obtain ⟨T, hT⟩ : ∃ T, T = mk (chunkBytes (x, y, z)) := ⟨_, rfl⟩
        have CP := Lib.hid (fun w => (by rw [hT]; exact l11put x y z hcb w : Calls Try.prog 50 #[.agg #[.int .i64 x, .int .i64 y, .string z]] w fun e w' => e = .returned (.string T) ∧ Below w.heap.size w w'))
        have hTz : T.size ≤ 67 := by rw [hT, mk_size]; exact hle
        have HK := Lib.hid (show mk (headBytes f t g ++ zeros 4 ++ restBytes (l.take (k + 1))) = S ++ T from by rw [HA.out, hS.out, hT, mk_append]; simp only [List.append_assoc])
        have hz := bsize S T
        have hz2 : (S ++ T).size ≤ 12 + 67 * (k + 1) := by rw [hz]; omega
        have hz3 : 12 ≤ (S ++ T).size := by rw [hz]; omega
        have hk0 : (0 : Int) ≤ (k : Int) := by omega
        have hk1 : (k : Int) < (n : Int) := by omega
        clear hr HA hT hcb hle hz hS
        go_wp2_with fail
        refine (CP.out _).mono ?_
        rintro e w5 ⟨rfl, b5⟩
        have B5 := Lib.hid (bstep BR.out b5 BR.out.size)
        have Q5 := Lib.hid (Q.out.below b5 Q.out.lt)
        clear b5 e1 e2 e3 x3
        go_wp2
        go_roundw
        case rel => exact ⟨k + 1, S ++ T, by omega, by go_num, rfl, Lib.hid HK.out.symm, hz2, hz3, Q5.out, B5.out⟩
        case measure => simp [intOf]; omega
      · have HE := Lib.hid (show S = mk (headBytes f t g ++ zeros 4 ++ restBytes l) from by rw [hS.out, List.take_of_length_le (by rw [HN.out]; omega)])
        have i1 : (0 : Int) ≤ 8 := by omega
        have i2 : (8 : Int) ≤ (S.size : Int) := by omega
        have i3 : (0 : Int) ≤ 12 := by omega
        have i4 : (12 : Int) ≤ (S.size : Int) := by omega
        have z1 : (S.extract 0 8).size = 8 := by rw [ByteArray.size_extract]; omega
        have z2 : (S.extract 12 S.size).size = S.size - 12 := by rw [ByteArray.size_extract]; omega
        have h8 : bl (S.extract 0 8) = headBytes f t g := by rw [bl_extract, HE.out, bl_mk]; rfl
        have h12 : bl (S.extract 12 S.size) = restBytes l := by
          have e : (bl S).drop 12 = restBytes l := by rw [HE.out, bl_mk]; rfl
          rw [bl_extract, e, List.take_of_length_le]
          have := congrArg List.length e
          rw [List.length_drop, bl_len] at this
          omega
        obtain ⟨K, hK⟩ : ∃ K, K = packSum f t g l := ⟨_, rfl⟩
        have hKl : K < 4294967296 := by rw [hK]; exact sumOf_lt _
        have hKg : getSum (bl S) = K := by
          rw [hK]
          unfold getSum packSum
          rw [HE.out, bl_mk]
          rfl
        have ST := Lib.hid (fun w => (by rw [← hKg]; exact l13sum S hS12 (by omega) w : Calls Try.prog 25 #[.string S] w fun e w' => e = .returned (.int .i64 (K : Int)) ∧ Below w.heap.size w w'))
        obtain ⟨V, hV⟩ : ∃ V, V = mk (long K) := ⟨_, rfl⟩
        have CV := Lib.hid (fun w => (by rw [hV]; have := l1long (K : Int) (by omega) (by omega) w; simpa using this : Calls Try.prog 24 #[.int .i64 (K : Int)] w fun e w' => e = .returned (.string V) ∧ Below w.heap.size w w'))
        have zV : V.size = 4 := by rw [hV]; rfl
        have z4 := bsize (S.extract 0 8) V
        have hB1 := fun w : World => run_string_add_sum (P := Try.prog) (w := w) (S.extract 0 8) V (by omega)
        have hB2 := fun w : World => run_string_add_sum (P := Try.prog) (w := w) (S.extract 0 8 ++ V) (S.extract 12 S.size) (by omega)
        have HF := Lib.hid (show S.extract 0 8 ++ V ++ S.extract 12 S.size = mk (packBytes f t g l) from bl_inj (by
          rw [bl_append, bl_append, h8, h12, hV, bl_mk, bl_mk, hK]
          rfl))
        have hB : ¬ ((9223372036854775807 : Nat) < 8 + 4 + (S.size - 12)) := by omega
        clear hS z4 hK hV hKg h8 h12
        go_wp2
        go_region_with (first
          | (go_at_call 25; refine (ST.out _).mono ?_; rintro e w5 ⟨rfl, b5⟩; have B5 := Lib.hid (bstep BR.out.drew b5 BR.out.size); clear b5)
          | (go_at_call 24; refine (CV.out _).mono ?_; rintro e w6 ⟨rfl, b6⟩; have B6 := Lib.hid (bstep B5.out b6 B5.out.size); clear b6))
        all_goals
          go_wp2
          go_ret
          exact ⟨by rw [← HF.out]; rfl, B6.out⟩
set_option maxHeartbeats 800000 in
theorem spack_put (f t g : Int) (A : Option Addr) (n c : Nat) (l : List Chk) (w : World) (hs : Sl w w.heap.size A (chks l)) (hn : l.length = n) (hm : n ≤ 9223372036854775807) (hb : Bods l) :
    Calls Try.prog 19 #[packV f t g A n c] w fun e w' => e = .returned (.string (packPut f t g l)) ∧ Below w.heap.size w w' := by
  have HS := Lib.hid hs; clear hs
  by_cases h : packB f t g l = true
  · rw [packPut_yes h]
    have PV := Lib.hid (fun (A : Option Addr) (c : Nat) (w : World) hs => (by rw [← h]; exact spack_valid f t g A n c l w hs hn hm hb : Calls Try.prog 33 #[packV f t g A n c] w fun e w' => e = .returned (.bool true) ∧ Below w.heap.size w w'))
    have LP := Lib.hid (fun (A : Option Addr) (c : Nat) (w : World) hs => l13put f t g A n c l w hs hn h)
    go_enter Try.func19, Try.ntmps19
    go_wp2_with fail
    refine (PV.out _ _ _ ((HS.out.alloc (Nat.le_refl _) _).more (by simp))).mono ?_
    rintro e w1 ⟨rfl, b1'⟩
    obtain ⟨q1, z1, b1⟩ := boxed b1'
    have x0 : w1.cell? ⟨w.heap.size, 0, none⟩ = some (.int .i64 f) := q1.get 0 rfl
    have x1 : w1.cell? ⟨w.heap.size, 1, none⟩ = some (.int .i64 t) := q1.get 1 rfl
    have x2 : w1.cell? ⟨w.heap.size, 2, none⟩ = some (.int .i64 g) := q1.get 2 rfl
    have x3 : w1.cell? ⟨w.heap.size, 3, none⟩ = some (.slice A n c) := q1.get 3 rfl
    have B1 := Lib.hid b1
    clear b1 b1' q1
    go_wp2_with fail
    refine (LP.out _ _ _ ((HS.out.below B1.out (Nat.le_refl _)).more B1.out.size)).mono ?_
    rintro e w2 ⟨rfl, b2⟩
    go_wp2
    go_ret
    exact ⟨rfl, bstep B1.out b2 B1.out.size⟩
  · have h : packB f t g l = false := by simpa using h
    rw [packPut_no h]
    go_enter Try.func19, Try.ntmps19
    go_wp2_with fail
    refine (spack_valid f t g A n c l _ ((HS.out.alloc (Nat.le_refl _) _).more (by simp)) hn hm hb).mono ?_
    rw [h]
    rintro e w1 ⟨rfl, b1'⟩
    obtain ⟨q1, z1, b1⟩ := boxed b1'
    go_wp2
    go_ret
    exact ⟨rfl, b1⟩
end Go.Proofs.Ytlemdagiamnphaa
