/-
  What RuleName returns, in the program and in the reference: one and the same text for each number. No condition.
-/
import Derived.Test.YtdmdnakmjcikiaaRows
import Derived.Test.YtdmdnakmjcikiaaBase
import Derived.Test.YtdmdnakmjcikiaaNum
namespace Go.Proofs.Ytdmdnakmjcikiaa
open Go.ChangeShapes Go.WideShapes Go.ChangeAt Go.RowKit
set_option linter.unusedVariables false

def rn (n : Int) : ByteArray :=
  if n = 1 then ⟨#[97, 108, 111, 110, 101]⟩ else
  if n = 2 then ⟨#[116, 97, 103]⟩ else
  if n = 3 then ⟨#[115, 116, 97, 116, 101]⟩ else
  if n = 4 then ⟨#[98, 111, 100, 121]⟩ else
  if n = 5 then ⟨#[115, 116, 114, 101, 97, 109]⟩ else
  if n = 6 then ⟨#[116, 115, 110]⟩ else
  if n = 7 then ⟨#[97, 103, 97, 105, 110]⟩ else
  if n = 8 then ⟨#[115, 115, 110]⟩ else
  if n = 9 then ⟨#[97, 99, 107]⟩ else
  if n = 10 then ⟨#[115, 104, 117, 116]⟩ else
  if n = 11 then ⟨#[108, 105, 109, 105, 116]⟩ else
  ⟨#[]⟩
theorem irn_lo (n : Int) (h : n < 1) (w : World) :
    Calls Try.prog 10 #[.int .i64 n] w fun e w' => e = .returned (.string ⟨#[]⟩) ∧ Below w.heap.size w w' := by
  go_enter Try.func10, Try.ntmps10
  go_wp2
  go_ret
  exact ⟨rfl, by go_grown⟩
theorem irn_hi (n : Int) (h : 11 < n) (w : World) :
    Calls Try.prog 10 #[.int .i64 n] w fun e w' => e = .returned (.string ⟨#[]⟩) ∧ Below w.heap.size w w' := by
  go_enter Try.func10, Try.ntmps10
  go_wp2
  go_ret
  exact ⟨rfl, by go_grown⟩
theorem irn_1 (w : World) :
    Calls Try.prog 10 #[.int .i64 1] w fun e w' => e = .returned (.string ⟨#[97, 108, 111, 110, 101]⟩) ∧ Below w.heap.size w w' := by
  go_enter Try.func10, Try.ntmps10
  go_wp2
  go_ret
  exact ⟨rfl, by go_grown⟩
theorem irn_2 (w : World) :
    Calls Try.prog 10 #[.int .i64 2] w fun e w' => e = .returned (.string ⟨#[116, 97, 103]⟩) ∧ Below w.heap.size w w' := by
  go_enter Try.func10, Try.ntmps10
  go_wp2
  go_ret
  exact ⟨rfl, by go_grown⟩
theorem irn_3 (w : World) :
    Calls Try.prog 10 #[.int .i64 3] w fun e w' => e = .returned (.string ⟨#[115, 116, 97, 116, 101]⟩) ∧ Below w.heap.size w w' := by
  go_enter Try.func10, Try.ntmps10
  go_wp2
  go_ret
  exact ⟨rfl, by go_grown⟩
theorem irn_4 (w : World) :
    Calls Try.prog 10 #[.int .i64 4] w fun e w' => e = .returned (.string ⟨#[98, 111, 100, 121]⟩) ∧ Below w.heap.size w w' := by
  go_enter Try.func10, Try.ntmps10
  go_wp2
  go_ret
  exact ⟨rfl, by go_grown⟩
theorem irn_5 (w : World) :
    Calls Try.prog 10 #[.int .i64 5] w fun e w' => e = .returned (.string ⟨#[115, 116, 114, 101, 97, 109]⟩) ∧ Below w.heap.size w w' := by
  go_enter Try.func10, Try.ntmps10
  go_wp2
  go_ret
  exact ⟨rfl, by go_grown⟩
theorem irn_6 (w : World) :
    Calls Try.prog 10 #[.int .i64 6] w fun e w' => e = .returned (.string ⟨#[116, 115, 110]⟩) ∧ Below w.heap.size w w' := by
  go_enter Try.func10, Try.ntmps10
  go_wp2
  go_ret
  exact ⟨rfl, by go_grown⟩
theorem irn_7 (w : World) :
    Calls Try.prog 10 #[.int .i64 7] w fun e w' => e = .returned (.string ⟨#[97, 103, 97, 105, 110]⟩) ∧ Below w.heap.size w w' := by
  go_enter Try.func10, Try.ntmps10
  go_wp2
  go_ret
  exact ⟨rfl, by go_grown⟩
theorem irn_8 (w : World) :
    Calls Try.prog 10 #[.int .i64 8] w fun e w' => e = .returned (.string ⟨#[115, 115, 110]⟩) ∧ Below w.heap.size w w' := by
  go_enter Try.func10, Try.ntmps10
  go_wp2
  go_ret
  exact ⟨rfl, by go_grown⟩
theorem irn_9 (w : World) :
    Calls Try.prog 10 #[.int .i64 9] w fun e w' => e = .returned (.string ⟨#[97, 99, 107]⟩) ∧ Below w.heap.size w w' := by
  go_enter Try.func10, Try.ntmps10
  go_wp2
  go_ret
  exact ⟨rfl, by go_grown⟩
theorem irn_10 (w : World) :
    Calls Try.prog 10 #[.int .i64 10] w fun e w' => e = .returned (.string ⟨#[115, 104, 117, 116]⟩) ∧ Below w.heap.size w w' := by
  go_enter Try.func10, Try.ntmps10
  go_wp2
  go_ret
  exact ⟨rfl, by go_grown⟩
theorem irn_11 (w : World) :
    Calls Try.prog 10 #[.int .i64 11] w fun e w' => e = .returned (.string ⟨#[108, 105, 109, 105, 116]⟩) ∧ Below w.heap.size w w' := by
  go_enter Try.func10, Try.ntmps10
  go_wp2
  go_ret
  exact ⟨rfl, by go_grown⟩
theorem irn_any (n : Int) (w : World) :
    Calls Try.prog 10 #[.int .i64 n] w fun e w' => e = .returned (.string (rn n)) ∧ Below w.heap.size w w' := by
  by_cases h1 : n < 1
  · have e : rn n = ⟨#[]⟩ := by unfold rn; repeat rw [if_neg (by omega)]
    rw [e]; exact irn_lo n h1 w
  by_cases h2 : 11 < n
  · have e : rn n = ⟨#[]⟩ := by unfold rn; repeat rw [if_neg (by omega)]
    rw [e]; exact irn_hi n h2 w
  have h3 : n = 1 ∨ n = 2 ∨ n = 3 ∨ n = 4 ∨ n = 5 ∨ n = 6 ∨ n = 7 ∨ n = 8 ∨ n = 9 ∨ n = 10 ∨ n = 11 := by omega
  rcases h3 with rfl | rfl | rfl | rfl | rfl | rfl | rfl | rfl | rfl | rfl | rfl
  · exact irn_1 w
  · exact irn_2 w
  · exact irn_3 w
  · exact irn_4 w
  · exact irn_5 w
  · exact irn_6 w
  · exact irn_7 w
  · exact irn_8 w
  · exact irn_9 w
  · exact irn_10 w
  · exact irn_11 w
theorem srn_lo (n : Int) (h : n < 0) (w : World) :
    Calls Try.prog 9 #[.int .i64 n] w fun e w' => e = .returned (.string ⟨#[]⟩) ∧ Below w.heap.size w w' := by
  have hb : inB n 0 11 = false := inB_no (by omega)
  go_enter Try.func9, Try.ntmps9
  go_wp2_with (go_at_call 28; refine (in_any _ _ _ _).mono ?_; rintro e w' ⟨rfl, rfl⟩)
  go_ret
  exact ⟨rfl, by go_grown⟩
theorem srn_hi (n : Int) (h : 11 < n) (w : World) :
    Calls Try.prog 9 #[.int .i64 n] w fun e w' => e = .returned (.string ⟨#[]⟩) ∧ Below w.heap.size w w' := by
  have hb : inB n 0 11 = false := inB_no (by omega)
  go_enter Try.func9, Try.ntmps9
  go_wp2_with (go_at_call 28; refine (in_any _ _ _ _).mono ?_; rintro e w' ⟨rfl, rfl⟩)
  go_ret
  exact ⟨rfl, by go_grown⟩
theorem srn_0 (w : World) :
    Calls Try.prog 9 #[.int .i64 0] w fun e w' => e = .returned (.string ⟨#[]⟩) ∧ Below w.heap.size w w' := by
  have hb : inB 0 0 11 = true := inB_mk (by omega)
  go_enter Try.func9, Try.ntmps9
  go_wp2_with (go_at_call 28; refine (in_any _ _ _ _).mono ?_; rintro e w' ⟨rfl, rfl⟩)
  go_ret
  exact ⟨rfl, by go_grown⟩
theorem srn_1 (w : World) :
    Calls Try.prog 9 #[.int .i64 1] w fun e w' => e = .returned (.string ⟨#[97, 108, 111, 110, 101]⟩) ∧ Below w.heap.size w w' := by
  have hb : inB 1 0 11 = true := inB_mk (by omega)
  go_enter Try.func9, Try.ntmps9
  go_wp2_with (go_at_call 28; refine (in_any _ _ _ _).mono ?_; rintro e w' ⟨rfl, rfl⟩)
  go_ret
  exact ⟨rfl, by go_grown⟩
theorem srn_2 (w : World) :
    Calls Try.prog 9 #[.int .i64 2] w fun e w' => e = .returned (.string ⟨#[116, 97, 103]⟩) ∧ Below w.heap.size w w' := by
  have hb : inB 2 0 11 = true := inB_mk (by omega)
  go_enter Try.func9, Try.ntmps9
  go_wp2_with (go_at_call 28; refine (in_any _ _ _ _).mono ?_; rintro e w' ⟨rfl, rfl⟩)
  go_ret
  exact ⟨rfl, by go_grown⟩
theorem srn_3 (w : World) :
    Calls Try.prog 9 #[.int .i64 3] w fun e w' => e = .returned (.string ⟨#[115, 116, 97, 116, 101]⟩) ∧ Below w.heap.size w w' := by
  have hb : inB 3 0 11 = true := inB_mk (by omega)
  go_enter Try.func9, Try.ntmps9
  go_wp2_with (go_at_call 28; refine (in_any _ _ _ _).mono ?_; rintro e w' ⟨rfl, rfl⟩)
  go_ret
  exact ⟨rfl, by go_grown⟩
theorem srn_4 (w : World) :
    Calls Try.prog 9 #[.int .i64 4] w fun e w' => e = .returned (.string ⟨#[98, 111, 100, 121]⟩) ∧ Below w.heap.size w w' := by
  have hb : inB 4 0 11 = true := inB_mk (by omega)
  go_enter Try.func9, Try.ntmps9
  go_wp2_with (go_at_call 28; refine (in_any _ _ _ _).mono ?_; rintro e w' ⟨rfl, rfl⟩)
  go_ret
  exact ⟨rfl, by go_grown⟩
theorem srn_5 (w : World) :
    Calls Try.prog 9 #[.int .i64 5] w fun e w' => e = .returned (.string ⟨#[115, 116, 114, 101, 97, 109]⟩) ∧ Below w.heap.size w w' := by
  have hb : inB 5 0 11 = true := inB_mk (by omega)
  go_enter Try.func9, Try.ntmps9
  go_wp2_with (go_at_call 28; refine (in_any _ _ _ _).mono ?_; rintro e w' ⟨rfl, rfl⟩)
  go_ret
  exact ⟨rfl, by go_grown⟩
theorem srn_6 (w : World) :
    Calls Try.prog 9 #[.int .i64 6] w fun e w' => e = .returned (.string ⟨#[116, 115, 110]⟩) ∧ Below w.heap.size w w' := by
  have hb : inB 6 0 11 = true := inB_mk (by omega)
  go_enter Try.func9, Try.ntmps9
  go_wp2_with (go_at_call 28; refine (in_any _ _ _ _).mono ?_; rintro e w' ⟨rfl, rfl⟩)
  go_ret
  exact ⟨rfl, by go_grown⟩
theorem srn_7 (w : World) :
    Calls Try.prog 9 #[.int .i64 7] w fun e w' => e = .returned (.string ⟨#[97, 103, 97, 105, 110]⟩) ∧ Below w.heap.size w w' := by
  have hb : inB 7 0 11 = true := inB_mk (by omega)
  go_enter Try.func9, Try.ntmps9
  go_wp2_with (go_at_call 28; refine (in_any _ _ _ _).mono ?_; rintro e w' ⟨rfl, rfl⟩)
  go_ret
  exact ⟨rfl, by go_grown⟩
theorem srn_8 (w : World) :
    Calls Try.prog 9 #[.int .i64 8] w fun e w' => e = .returned (.string ⟨#[115, 115, 110]⟩) ∧ Below w.heap.size w w' := by
  have hb : inB 8 0 11 = true := inB_mk (by omega)
  go_enter Try.func9, Try.ntmps9
  go_wp2_with (go_at_call 28; refine (in_any _ _ _ _).mono ?_; rintro e w' ⟨rfl, rfl⟩)
  go_ret
  exact ⟨rfl, by go_grown⟩
theorem srn_9 (w : World) :
    Calls Try.prog 9 #[.int .i64 9] w fun e w' => e = .returned (.string ⟨#[97, 99, 107]⟩) ∧ Below w.heap.size w w' := by
  have hb : inB 9 0 11 = true := inB_mk (by omega)
  go_enter Try.func9, Try.ntmps9
  go_wp2_with (go_at_call 28; refine (in_any _ _ _ _).mono ?_; rintro e w' ⟨rfl, rfl⟩)
  go_ret
  exact ⟨rfl, by go_grown⟩
theorem srn_10 (w : World) :
    Calls Try.prog 9 #[.int .i64 10] w fun e w' => e = .returned (.string ⟨#[115, 104, 117, 116]⟩) ∧ Below w.heap.size w w' := by
  have hb : inB 10 0 11 = true := inB_mk (by omega)
  go_enter Try.func9, Try.ntmps9
  go_wp2_with (go_at_call 28; refine (in_any _ _ _ _).mono ?_; rintro e w' ⟨rfl, rfl⟩)
  go_ret
  exact ⟨rfl, by go_grown⟩
theorem srn_11 (w : World) :
    Calls Try.prog 9 #[.int .i64 11] w fun e w' => e = .returned (.string ⟨#[108, 105, 109, 105, 116]⟩) ∧ Below w.heap.size w w' := by
  have hb : inB 11 0 11 = true := inB_mk (by omega)
  go_enter Try.func9, Try.ntmps9
  go_wp2_with (go_at_call 28; refine (in_any _ _ _ _).mono ?_; rintro e w' ⟨rfl, rfl⟩)
  go_ret
  exact ⟨rfl, by go_grown⟩
theorem srn_any (n : Int) (w : World) :
    Calls Try.prog 9 #[.int .i64 n] w fun e w' => e = .returned (.string (rn n)) ∧ Below w.heap.size w w' := by
  by_cases h1 : n < 0
  · have e : rn n = ⟨#[]⟩ := by unfold rn; repeat rw [if_neg (by omega)]
    rw [e]; exact srn_lo n h1 w
  by_cases h2 : 11 < n
  · have e : rn n = ⟨#[]⟩ := by unfold rn; repeat rw [if_neg (by omega)]
    rw [e]; exact srn_hi n h2 w
  have h3 : n = 0 ∨ n = 1 ∨ n = 2 ∨ n = 3 ∨ n = 4 ∨ n = 5 ∨ n = 6 ∨ n = 7 ∨ n = 8 ∨ n = 9 ∨ n = 10 ∨ n = 11 := by omega
  rcases h3 with rfl | rfl | rfl | rfl | rfl | rfl | rfl | rfl | rfl | rfl | rfl | rfl
  · exact srn_0 w
  · exact srn_1 w
  · exact srn_2 w
  · exact srn_3 w
  · exact srn_4 w
  · exact srn_5 w
  · exact srn_6 w
  · exact srn_7 w
  · exact srn_8 w
  · exact srn_9 w
  · exact srn_10 w
  · exact srn_11 w

theorem rn_inj (n k : Int) (h : rn n = rn k) (hn : 1 ≤ n ∧ n ≤ 11) : k = n := by
  by_cases hk : 1 ≤ k ∧ k ≤ 11
  · have h1 : n = 1 ∨ n = 2 ∨ n = 3 ∨ n = 4 ∨ n = 5 ∨ n = 6 ∨ n = 7 ∨ n = 8 ∨ n = 9 ∨ n = 10 ∨ n = 11 := by omega
    have h2 : k = 1 ∨ k = 2 ∨ k = 3 ∨ k = 4 ∨ k = 5 ∨ k = 6 ∨ k = 7 ∨ k = 8 ∨ k = 9 ∨ k = 10 ∨ k = 11 := by omega
    rcases h1 with rfl | rfl | rfl | rfl | rfl | rfl | rfl | rfl | rfl | rfl | rfl <;> rcases h2 with rfl | rfl | rfl | rfl | rfl | rfl | rfl | rfl | rfl | rfl | rfl <;> first | rfl | exact absurd h (by decide)
  · have e : rn k = ⟨#[]⟩ := by unfold rn; repeat rw [if_neg (by omega)]
    rw [e] at h
    have h1 : n = 1 ∨ n = 2 ∨ n = 3 ∨ n = 4 ∨ n = 5 ∨ n = 6 ∨ n = 7 ∨ n = 8 ∨ n = 9 ∨ n = 10 ∨ n = 11 := by omega
    rcases h1 with rfl | rfl | rfl | rfl | rfl | rfl | rfl | rfl | rfl | rfl | rfl <;> exact absurd h (by decide)
theorem rn_empty (n : Int) (h : ¬(1 ≤ n ∧ n ≤ 11)) : rn n = ⟨#[]⟩ := by unfold rn; repeat rw [if_neg (by omega)]
theorem rn_full (n : Int) (h : 1 ≤ n ∧ n ≤ 11) : rn n ≠ ⟨#[]⟩ := by
  have h1 : n = 1 ∨ n = 2 ∨ n = 3 ∨ n = 4 ∨ n = 5 ∨ n = 6 ∨ n = 7 ∨ n = 8 ∨ n = 9 ∨ n = 10 ∨ n = 11 := by omega
  rcases h1 with rfl | rfl | rfl | rfl | rfl | rfl | rfl | rfl | rfl | rfl | rfl <;> decide
end Go.Proofs.Ytdmdnakmjcikiaa
