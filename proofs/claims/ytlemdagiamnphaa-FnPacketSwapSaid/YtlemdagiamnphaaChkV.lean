/-
  When a chunk and a packet are valid, in the program and in the reference. Conditions: the chunks can be read.
-/
import Derived.Test.YtlemdagiamnphaaPackP
import Derived.Test.YtlemdagiamnphaaNum
import Derived.Test.YtlemdagiamnphaaFlat
import Derived.Test.YtlemdagiamnphaaNumR
import Derived.Deep.RegionHeld3
import Derived.BigQuiet
namespace Go.Proofs.Ytlemdagiamnphaa
open Go.ChangeShapes Go.WideShapes Go.ChangeAt Go.RowKit
set_option linter.unusedVariables false
set_option linter.unusedSimpArgs false

def chkC (c : Chk) : List Value := [.int .i64 c.1, .int .i64 c.2.1, .string c.2.2]
theorem chkC_len (c : Chk) : (chkC c).length = 3 := rfl
def chks (l : List Chk) : List Value := l.flatMap chkC
theorem chks_len (l : List Chk) : (chks l).length = l.length * 3 := flat_len chkC 3 chkC_len l
theorem chks_one (l : List Chk) : ∀ u ∈ chks l, u.oneCell' = true := flat_one (fun g u hu => by
  unfold chkC at hu
  simp at hu
  rcases hu with rfl | rfl | rfl <;> rfl)
theorem chks_app (a b : List Chk) : chks (a ++ b) = chks a ++ chks b := by unfold chks; rw [List.flatMap_append]
theorem chks_elem {w : World} {B : Nat} {A : Option Addr} {l : List Chk} (hs : Sl w B A (chks l)) {i : Nat} {r : Chk} (h : l[i]? = some r) :
    ∃ b off, A = some ⟨b, off, none⟩ ∧ b < B ∧ w.cell? ⟨b, off + i * 3, none⟩ = some (.int .i64 r.1) ∧ w.cell? ⟨b, off + i * 3 + 1, none⟩ = some (.int .i64 r.2.1) ∧ w.cell? ⟨b, off + i * 3 + 2, none⟩ = some (.string r.2.2) := by
  obtain ⟨b, off, e, hb, hc⟩ := hs.elem chkC_len (by omega) h
  exact ⟨b, off, e, hb, hc 0 _ rfl, hc 1 _ rfl, hc 2 _ rfl⟩
abbrev chkV (c : Chk) : Value := .agg #[.int .i64 c.1, .int .i64 c.2.1, .string c.2.2]
/-- Bodies that a string may be. -/
def Bods (l : List Chk) : Prop := ∀ r ∈ l, r.2.2.size ≤ 9223372036854775807

theorem ichunk_valid (k f : Int) (b : ByteArray) (hb : b.size ≤ 9223372036854775807) (w : World) : Calls Try.prog 48 #[.agg #[.int .i64 k, .int .i64 f, .string b]] w fun e w' => e = .returned (.bool (chunkB (k, f, b))) ∧ Below w.heap.size w w' := by
  by_cases h : chunkB (k, f, b) = true
  · obtain ⟨h1, h2, h3, h4, h5⟩ := chunkB_true h
    change 0 ≤ k at h1
    change k ≤ 255 at h2
    change 0 ≤ f at h3
    change f ≤ 255 at h4
    change b.size ≤ 60 at h5
    rw [h]
    go_enter Try.func48, Try.ntmps48
    go_wp2
    go_ret
    exact ⟨ret_bool (by simp; try omega), by go_grown⟩
  · have h : chunkB (k, f, b) = false := by simpa using h
    have hn := chunkB_false h
    change ¬ (0 ≤ k ∧ k ≤ 255 ∧ 0 ≤ f ∧ f ≤ 255 ∧ b.size ≤ 60) at hn
    rw [h]
    by_cases h1 : 0 ≤ k
    · by_cases h2 : k ≤ 255
      · by_cases h3 : 0 ≤ f
        · by_cases h4 : f ≤ 255
          · have h5 : ¬ b.size ≤ 60 := by omega
            clear hn
            go_enter Try.func48, Try.ntmps48
            go_wp2
            go_ret
            exact ⟨ret_bool (by simp; try omega), by go_grown⟩
          · clear hn
            go_enter Try.func48, Try.ntmps48
            go_wp2
            go_ret
            exact ⟨ret_bool (by simp; try omega), by go_grown⟩
        · clear hn
          go_enter Try.func48, Try.ntmps48
          go_wp2
          go_ret
          exact ⟨ret_bool (by simp; try omega), by go_grown⟩
      · clear hn
        go_enter Try.func48, Try.ntmps48
        go_wp2
        go_ret
        exact ⟨ret_bool (by simp; try omega), by go_grown⟩
    · clear hn
      go_enter Try.func48, Try.ntmps48
      go_wp2
      go_ret
      exact ⟨ret_bool (by simp; try omega), by go_grown⟩
theorem schunk_valid (k f : Int) (b : ByteArray) (hb : b.size ≤ 9223372036854775807) (w : World) : Calls Try.prog 51 #[.agg #[.int .i64 k, .int .i64 f, .string b]] w fun e w' => e = .returned (.bool (chunkB (k, f, b))) ∧ Below w.heap.size w w' := by
  have HE := Lib.hid (show chunkB (k, f, b) = (inB k 0 255 && inB f 0 255 && decide (b.size ≤ 60)) from by
    unfold chunkB inB
    simp only [Bool.decide_and, Bool.and_assoc])
  by_cases h1 : inB k 0 255 = true
  · by_cases h2 : inB f 0 255 = true
    · by_cases h3 : b.size ≤ 60
      all_goals
        go_enter Try.func51, Try.ntmps51
        go_wp2_with (go_at_call 49; refine (in_any _ _ _ _).mono ?_; rintro e w' ⟨rfl, rfl⟩)
        go_ret
        exact ⟨ret_bool (by rw [HE.out, h1, h2]; simp; try omega), by go_grown⟩
    · have h2 : inB f 0 255 = false := by simpa using h2
      go_enter Try.func51, Try.ntmps51
      go_wp2_with (go_at_call 49; refine (in_any _ _ _ _).mono ?_; rintro e w' ⟨rfl, rfl⟩)
      go_ret
      exact ⟨ret_bool (by rw [HE.out, h1, h2]; simp; try omega), by go_grown⟩
  · have h1 : inB k 0 255 = false := by simpa using h1
    go_enter Try.func51, Try.ntmps51
    go_wp2_with (go_at_call 49; refine (in_any _ _ _ _).mono ?_; rintro e w' ⟨rfl, rfl⟩)
    go_ret
    exact ⟨ret_bool (by rw [HE.out, h1]; simp; try omega), by go_grown⟩
end Go.Proofs.Ytlemdagiamnphaa
