/-
  What ChunkPut returns, in the program and in the reference. Conditions: the chunk is valid where this is said.
-/
import Derived.Test.YtlemdagiamnphaaChkV
import Derived.Test.YtlemdagiamnphaaCapW
import Derived.Test.YtlemdagiamnphaaCapM
import Derived.Deep.RegionWith
import Derived.Deep.DeepCutAuto
namespace Go.Proofs.Ytlemdagiamnphaa
open Go.ChangeShapes Go.WideShapes Go.ChangeAt Go.RowKit
set_option linter.unusedVariables false
set_option linter.unusedSimpArgs false

theorem two_cells (a b : Int) (ha : 0 ≤ a ∧ a ≤ 255) (hb : 0 ≤ b ∧ b ≤ 255) : ∀ j (hj : j < ([UInt8.ofNat a.toNat, UInt8.ofNat b.toNat] : List UInt8).length), (#[Value.int .u8 a, Value.int .u8 b] : Array Value)[j]? = some (.int .u8 (([UInt8.ofNat a.toNat, UInt8.ofNat b.toNat] : List UInt8)[j].toNat : Int)) := by
  intro j hj
  have hj2 : j < 2 := hj
  match j, hj2 with
  | 0, _ =>
    show some _ = some (Value.int .u8 ((UInt8.ofNat a.toNat).toNat : Int))
    rw [show ((UInt8.ofNat a.toNat).toNat : Int) = a from by simp; omega]
    rfl
  | 1, _ =>
    show some _ = some (Value.int .u8 ((UInt8.ofNat b.toNat).toNat : Int))
    rw [show ((UInt8.ofNat b.toNat).toNat : Int) = b from by simp; omega]
    rfl
theorem conv_two_at {w : World} {g : Nat} {t : TypeId} (a b : Int) (ha : 0 ≤ a ∧ a ≤ 255) (hb : 0 ≤ b ∧ b ≤ 255) (hq : Blk w g #[.int .u8 a, .int .u8 b] t) :
    (convert 22 9 (.slice (some ⟨g, 0, none⟩) 2 2)).run Try.prog w = .ok (.string (mk [UInt8.ofNat a.toNat, UInt8.ofNat b.toNat])) w := by
  refine run_convert_bytes_back (P := Try.prog) _ 22 9 5 ⟨g, 0, none⟩ 2 [UInt8.ofNat a.toNat, UInt8.ofNat b.toNat] Try.underlying22 Try.underlying5 Try.underlying9 (fun j hj => ?_)
  have hadd : (⟨g, 0, none⟩ : Addr).add j = ⟨g, 0 + j, none⟩ := by unfold Addr.add; split <;> simp_all
  rw [hadd, hq.cell, Nat.zero_add]
  exact two_cells a b ha hb j hj
theorem conv_two (a b : Int) (ha : 0 ≤ a ∧ a ≤ 255) (hb : 0 ≤ b ∧ b ≤ 255) (w : World) :
    (convert 22 9 (.slice (some ⟨w.heap.size, 0, none⟩) 2 2)).run Try.prog (w.alloc (.cells #[.int .u8 a, .int .u8 b] 5)) = .ok (.string (mk [UInt8.ofNat a.toNat, UInt8.ofNat b.toNat])) (w.alloc (.cells #[.int .u8 a, .int .u8 b] 5)) :=
  conv_two_at a b ha hb (Blk.new w _ _)
def chunkPut (c : Chk) : ByteArray := if chunkB c then mk (chunkBytes c) else ⟨#[]⟩
theorem chunkPut_yes {c : Chk} (h : chunkB c = true) : chunkPut c = mk (chunkBytes c) := if_pos h
theorem chunkPut_no {c : Chk} (h : chunkB c = false) : chunkPut c = ⟨#[]⟩ := if_neg (by simp [h])
theorem zeros_snoc (m : Nat) : zeros (m + 1) = zeros m ++ [0] := by unfold zeros; rw [List.replicate_succ']
def padOf (v : Value) : Nat := match v with
  | .string S => pad S.size
  | _ => 0
theorem raw_app (k f : Int) (b : ByteArray) : mk [UInt8.ofNat k.toNat, UInt8.ofNat f.toNat] ++ mk (word (4 + b.size)) ++ b = mk (chunkRaw (k, f, b)) := by
  conv => lhs; rw [← mk_bl b]
  rw [mk_append, mk_append]
  rfl
set_option maxHeartbeats 1600000 in
set_option maxRecDepth 100000 in
theorem ichunk_put (k f : Int) (b : ByteArray) (hb : b.size ≤ 9223372036854775807) (w : World) : Calls Try.prog 37 #[.agg #[.int .i64 k, .int .i64 f, .string b]] w fun e w' => e = .returned (.string (chunkPut (k, f, b))) ∧ Below w.heap.size w w' := by
  by_cases h : chunkB (k, f, b) = true
  · obtain ⟨h1, h2, h3, h4, h5⟩ := chunkB_true h
    change 0 ≤ k at h1
    change k ≤ 255 at h2
    change 0 ≤ f at h3
    change f ≤ 255 at h4
    change b.size ≤ 60 at h5
    have HP := Lib.hid (chunkPut_yes h)
    have IV := Lib.hid (fun w => (by rw [← h]; exact ichunk_valid k f b hb w : Calls Try.prog 48 #[.agg #[.int .i64 k, .int .i64 f, .string b]] w fun e w' => e = .returned (.bool true) ∧ Below w.heap.size w w'))
    obtain ⟨W, hW⟩ : ∃ W, W = mk (word (4 + b.size)) := ⟨_, rfl⟩
    have CW := Lib.hid (fun w => (by rw [hW]; have := iword_put (4 + (b.size : Int)) (by omega) (by omega) w; rwa [show (4 + (b.size : Int)).toNat = 4 + b.size from by omega] at this : Calls Try.prog 52 #[.int .i64 (4 + (b.size : Int))] w fun e w' => e = .returned (.tuple #[.string W, .bool true]) ∧ Below w.heap.size w w'))
    obtain ⟨U, hU⟩ : ∃ U, U = mk [UInt8.ofNat k.toNat, UInt8.ofNat f.toNat] := ⟨_, rfl⟩
    have hcv := fun w => conv_two k f ⟨h1, h2⟩ ⟨h3, h4⟩ w
    rw [← hU] at hcv
    have zU : U.size = 2 := by rw [hU]; rfl
    have zW : W.size = 2 := by rw [hW]; rfl
    have zUW := bsize U W
    have zR := bsize (U ++ W) b
    have HR := Lib.hid (show U ++ W ++ b = mk (chunkRaw (k, f, b)) from by rw [hU, hW]; exact raw_app k f b)
    have hw1 := IntWalk.u8_in k ⟨h1, h2⟩
    have hw2 := IntWalk.u8_in f ⟨h3, h4⟩
    have hw3 := IntWalk.i64_in (4 + (b.size : Int)) (by omega)
    have hadd := fun w : World => run_string_add_sum (P := Try.prog) (w := w) (U ++ W) b (by rw [zUW, zU, zW]; omega)
    have HZ := Lib.hid (show (U ++ W ++ b).size = 4 + b.size from by omega)
    clear hW hU h zUW zR
    go_enter Try.func37, Try.ntmps37
    go_wp2_with fail
    refine (IV.out _).mono ?_
    rintro e w1 ⟨rfl, b1'⟩
    obtain ⟨q1, z1, b1⟩ := boxed b1'
    have x0 : w1.cell? ⟨w.heap.size, 0, none⟩ = some (.int .i64 k) := q1.get 0 rfl
    have x1 : w1.cell? ⟨w.heap.size, 1, none⟩ = some (.int .i64 f) := q1.get 1 rfl
    have x2 : w1.cell? ⟨w.heap.size, 2, none⟩ = some (.string b) := q1.get 2 rfl
    have Q1 := Lib.hid q1
    have B1 := Lib.hid b1
    clear b1 b1' q1
    go_wp2_with fail
    refine (CW.out _).mono ?_
    rintro e w2 ⟨rfl, b2⟩
    have y0 : w2.cell? ⟨w.heap.size, 0, none⟩ = some (.int .i64 k) := (Q1.out.below b2 Q1.out.lt).get 0 rfl
    have y1 : w2.cell? ⟨w.heap.size, 1, none⟩ = some (.int .i64 f) := (Q1.out.below b2 Q1.out.lt).get 1 rfl
    have y2 : w2.cell? ⟨w.heap.size, 2, none⟩ = some (.string b) := (Q1.out.below b2 Q1.out.lt).get 2 rfl
    have hl2 := (Q1.out.below b2 Q1.out.lt).lt
    have B2 := Lib.hid (bstep B1.out b2 B1.out.size)
    clear b2 x0 x1 x2
    go_wp2
    go_loopw [5] (fun o wr => ∃ (m : Nat) (S : ByteArray), o = .string S ∧ m ≤ pad (4 + b.size) ∧ Hid (S = mk (chunkRaw (k, f, b) ++ zeros m)) ∧ S.size = 4 + b.size + m ∧ Below w.heap.size w wr) (fun o _ => padOf o)
    case atStart => exact ⟨0, U ++ W ++ b, rfl, Nat.zero_le _, Lib.hid (by rw [HR.out]; simp [zeros]), HZ.out, B2.out.alloc B2.out.size _⟩
    case round =>
      obtain ⟨m, S, rfl, hm, hS, hz, hb2⟩ := hrel
      have hp := pad_lt (4 + b.size)
      have hpm := pad_mod (4 + b.size)
      by_cases hlt : m < pad (4 + b.size)
      · have hne : ((S.size : Int) % 4 == 0) = false := by
          have : S.size % 4 ≠ 0 := by unfold pad at *; omega
          simp; omega
        have hz2 := bsize S ⟨#[0]⟩
        have hz3 : (⟨#[0]⟩ : ByteArray).size = 1 := rfl
        have HA := Lib.hid (show S ++ ⟨#[0]⟩ = mk (chunkRaw (k, f, b) ++ zeros (m + 1)) from by rw [zeros_snoc, ← List.append_assoc, ← mk_append, ← hS.out]; rfl)
        have HZ2 := Lib.hid (show (S ++ ⟨#[0]⟩).size = 4 + b.size + (m + 1) from by omega)
        have hdec := Lib.hid (show pad (4 + b.size + (m + 1)) < pad (4 + b.size + m) from by unfold pad at *; omega)
        clear hz2 hz3
        go_wp2
        go_roundw
        case rel => exact ⟨m + 1, S ++ ⟨#[0]⟩, rfl, by omega, HA, HZ2.out, hb2⟩
        case measure => show pad (S ++ ⟨#[0]⟩).size < pad S.size; rw [HZ2.out, hz]; exact hdec.out
      · have he : m = pad (4 + b.size) := by omega
        have hne : ((S.size : Int) % 4 == 0) = true := by
          have : S.size % 4 = 0 := by rw [hz, he]; exact hpm
          simp; omega
        have HE := Lib.hid (show S = mk (chunkBytes (k, f, b)) from by rw [hS.out, he]; rfl)
        clear hS he
        go_wp2
        go_ret
        exact ⟨by rw [HP.out, ← HE.out]; rfl, hb2⟩
  · have h : chunkB (k, f, b) = false := by simpa using h
    have HP := Lib.hid (chunkPut_no h)
    go_enter Try.func37, Try.ntmps37
    go_wp2_with fail
    refine (ichunk_valid k f b hb _).mono ?_
    rw [h]
    rintro e w1 ⟨rfl, b1'⟩
    obtain ⟨q1, z1, b1⟩ := boxed b1'
    go_wp2
    go_ret
    exact ⟨by rw [HP.out]; rfl, b1⟩
set_option maxHeartbeats 1600000 in
set_option maxRecDepth 100000 in
theorem l11put (k f : Int) (b : ByteArray) (h : chunkB (k, f, b) = true) (w : World) : Calls Try.prog 50 #[.agg #[.int .i64 k, .int .i64 f, .string b]] w fun e w' => e = .returned (.string (mk (chunkBytes (k, f, b)))) ∧ Below w.heap.size w w' := by
  obtain ⟨h1, h2, h3, h4, h5⟩ := chunkB_true h
  change 0 ≤ k at h1
  change k ≤ 255 at h2
  change 0 ≤ f at h3
  change f ≤ 255 at h4
  change b.size ≤ 60 at h5
  obtain ⟨W, hW⟩ : ∃ W, W = mk (word (4 + b.size)) := ⟨_, rfl⟩
  have CW := Lib.hid (fun w => (by rw [hW]; have := l1word (4 + (b.size : Int)) (by omega) (by omega) w; rwa [show (4 + (b.size : Int)).toNat = 4 + b.size from by omega] at this : Calls Try.prog 45 #[.int .i64 (4 + (b.size : Int))] w fun e w' => e = .returned (.string W) ∧ Below w.heap.size w w'))
  obtain ⟨U, hU⟩ : ∃ U, U = mk [UInt8.ofNat k.toNat, UInt8.ofNat f.toNat] := ⟨_, rfl⟩
  have hcv := fun w => conv_two k f ⟨h1, h2⟩ ⟨h3, h4⟩ w
  have HC := Lib.hid (fun (w : World) (g : Nat) (hq : Blk w g #[.int .u8 k, .int .u8 f] 5) => conv_two_at k f ⟨h1, h2⟩ ⟨h3, h4⟩ hq)
  rw [← hU] at hcv HC
  have hcvd := fun w : World => HC.out _ w.heap.size (Blk.new w #[.int .u8 k, .int .u8 f] 5).drew
  have zU : U.size = 2 := by rw [hU]; rfl
  have zW : W.size = 2 := by rw [hW]; rfl
  have zUW := bsize U W
  have zR := bsize (U ++ W) b
  have HR := Lib.hid (show U ++ W ++ b = mk (chunkRaw (k, f, b)) from by rw [hU, hW]; exact raw_app k f b)
  have hw1 := IntWalk.u8_in k ⟨h1, h2⟩
  have hw2 := IntWalk.u8_in f ⟨h3, h4⟩
  have hw3 := IntWalk.i64_in (4 + (b.size : Int)) (by omega)
  have hadd := fun w : World => run_string_add_sum (P := Try.prog) (w := w) (U ++ W) b (by rw [zUW, zU, zW]; omega)
  have hlt1 : ¬ (U.size + W.size + b.size > 9223372036854775807) := by omega
  have hlt2 : ¬ ((9223372036854775807 : Nat) < U.size + W.size + b.size) := by omega
  have hlt3 : ¬ ((9223372036854775807 : Nat) < 2 + 2 + b.size) := by omega
  have hlt4 : ¬ ((9223372036854775807 : Nat) < 4 + b.size) := by omega
  have HZ := Lib.hid (show (U ++ W ++ b).size = 4 + b.size from by omega)
  clear hW hU h zUW zR
  have q1 := Blk.new w #[.int .i64 k, .int .i64 f, .string b] 46
  have B1 := Lib.hid ((Below.refl w.heap.size w).alloc (Nat.le_refl _) (.cells #[.int .i64 k, .int .i64 f, .string b] 46))
  have hsz : (w.alloc (.cells #[.int .i64 k, .int .i64 f, .string b] 46)).heap.size = w.heap.size + 1 := by simp
  obtain ⟨w1, hw1'⟩ : ∃ w1, w1 = w.alloc (.cells #[.int .i64 k, .int .i64 f, .string b] 46) := ⟨_, rfl⟩
  go_enter Try.func50, Try.ntmps50
  go_upto_region 1 with (fail)
  rw [← hw1'] at q1 B1 hsz ⊢
  have x0 : w1.cell? ⟨w.heap.size, 0, none⟩ = some (.int .i64 k) := q1.get 0 rfl
  have x1 : w1.cell? ⟨w.heap.size, 1, none⟩ = some (.int .i64 f) := q1.get 1 rfl
  have x2 : w1.cell? ⟨w.heap.size, 2, none⟩ = some (.string b) := q1.get 2 rfl
  have Q1 := Lib.hid q1
  have hlw : w.heap.size < w1.heap.size := q1.lt
  clear q1 hw1' hsz
  go_cut [3] (fun s3 wx => s3 = .string (U ++ W ++ b) ∧ Below w.heap.size w wx)
  case first =>
    go_region_held (fun w' => w'.cell? ⟨w.heap.size, 0, none⟩ = some (.int .i64 k) ∧ w'.cell? ⟨w.heap.size, 1, none⟩ = some (.int .i64 f) ∧ w'.cell? ⟨w.heap.size, 2, none⟩ = some (.string b)) (first | exact ⟨x0, x1, x2⟩ | exact ⟨t0, t1, t2⟩ | go_keep)
      (first
        | (go_at_call 45; (with_reducible refine (CW.out (w1.drew)).mono ?_); rintro e wb ⟨rfl, bb⟩; have Qb := Lib.hid (Q1.out.drew.below bb Q1.out.lt); have t0 : wb.cell? ⟨w.heap.size, 0, none⟩ = some (.int .i64 k) := Qb.out.get 0 rfl; have t1 : wb.cell? ⟨w.heap.size, 1, none⟩ = some (.int .i64 f) := Qb.out.get 1 rfl; have t2 : wb.cell? ⟨w.heap.size, 2, none⟩ = some (.string b) := Qb.out.get 2 rfl; have Bb := Lib.hid (bstep B1.out.drew bb B1.out.size); have lb := Qb.out.lt; clear bb)
        | (go_at_call 45; (with_reducible refine (CW.out ((w1.alloc _).drew)).mono ?_); rintro e wb ⟨rfl, bb⟩; have Qb := Lib.hid ((Q1.out.alloc _).drew.below bb (by simp; omega)); have t0 : wb.cell? ⟨w.heap.size, 0, none⟩ = some (.int .i64 k) := Qb.out.get 0 rfl; have t1 : wb.cell? ⟨w.heap.size, 1, none⟩ = some (.int .i64 f) := Qb.out.get 1 rfl; have t2 : wb.cell? ⟨w.heap.size, 2, none⟩ = some (.string b) := Qb.out.get 2 rfl; have Qc := Lib.hid ((Blk.new w1 #[.int .u8 k, .int .u8 f] 5).drew.below bb (by simp)); have hcb := HC.out wb w1.heap.size Qc.out; have Bb := Lib.hid (bstep (B1.out.alloc B1.out.size _).drew bb (by simp; omega)); have lb := Qb.out.lt; clear bb))
    all_goals
      go_wp2_with fail
      go_meet
      first | exact ⟨rfl, Bb.out⟩ | exact ⟨rfl, Bb.out.alloc Bb.out.size _⟩
  case rest =>
    obtain ⟨rfl, hbc⟩ := hcut
    have B2 := Lib.hid hbc
    clear hbc
    go_wp2
    go_loopw [3] (fun o wr => ∃ (m : Nat) (S : ByteArray), o = .string S ∧ m ≤ pad (4 + b.size) ∧ Hid (S = mk (chunkRaw (k, f, b) ++ zeros m)) ∧ S.size = 4 + b.size + m ∧ Below w.heap.size w wr) (fun o _ => padOf o)
    case atStart => exact ⟨0, U ++ W ++ b, rfl, Nat.zero_le _, Lib.hid (by rw [HR.out]; simp [zeros]), HZ.out, B2.out⟩
    case round =>
      obtain ⟨m, S, rfl, hm, hS, hz, hb2⟩ := hrel
      have hp := pad_lt (4 + b.size)
      have hpm := pad_mod (4 + b.size)
      by_cases hlt : m < pad (4 + b.size)
      · have hne : ((S.size : Int) % 4 == 0) = false := by
          have : S.size % 4 ≠ 0 := by unfold pad at *; omega
          simp; omega
        have hz2 := bsize S ⟨#[0]⟩
        have hz3 : (⟨#[0]⟩ : ByteArray).size = 1 := rfl
        have HA := Lib.hid (show S ++ ⟨#[0]⟩ = mk (chunkRaw (k, f, b) ++ zeros (m + 1)) from by rw [zeros_snoc, ← List.append_assoc, ← mk_append, ← hS.out]; rfl)
        have HZ2 := Lib.hid (show (S ++ ⟨#[0]⟩).size = 4 + b.size + (m + 1) from by omega)
        have hdec := Lib.hid (show pad (4 + b.size + (m + 1)) < pad (4 + b.size + m) from by unfold pad at *; omega)
        clear hz2 hz3
        go_wp2
        go_roundw
        case rel => exact ⟨m + 1, S ++ ⟨#[0]⟩, rfl, by omega, HA, HZ2.out, hb2⟩
        case measure => show pad (S ++ ⟨#[0]⟩).size < pad S.size; rw [HZ2.out, hz]; exact hdec.out
      · have he : m = pad (4 + b.size) := by omega
        have hne : ((S.size : Int) % 4 == 0) = true := by
          have : S.size % 4 = 0 := by rw [hz, he]; exact hpm
          simp; omega
        have HE := Lib.hid (show S = mk (chunkBytes (k, f, b)) from by rw [hS.out, he]; rfl)
        clear hS he
        go_wp2
        go_ret
        exact ⟨by rw [← HE.out]; rfl, hb2⟩
end Go.Proofs.Ytlemdagiamnphaa
