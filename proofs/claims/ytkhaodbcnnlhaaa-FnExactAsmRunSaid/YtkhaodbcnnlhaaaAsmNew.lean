/-
  What AsmNew returns, in the program and in the reference; and the comparison of two new assemblies. Conditions: those that each theorem bears.
-/
import Derived.Test.YtkhaodbcnnlhaaaRows
import Derived.Test.YtkhaodbcnnlhaaaBase
import Derived.Test.YtkhaodbcnnlhaaaNum
import Derived.Test.YtkhaodbcnnlhaaaOwn
namespace Go.Proofs.Ytkhaodbcnnlhaaa
open Go.ChangeShapes Go.WideShapes Go.ChangeAt Go.RowKit
set_option linter.unusedVariables false

theorem info_int : (Try.prog.info? 3).map (fun i => (i.zero, i.size, i.bytes)) = some (some (.int .i64 0), 1, 8) := by kernel_rfl

def AsmNo (w : World) (e : Ending) (w' : World) : Prop := e = .returned (.tuple #[.agg #[.slice none 0 0, .slice none 0 0], .bool false]) ∧ Below w.heap.size w w'
set_option maxRecDepth 100000 in
theorem iasm_no (n : Int) (h : n < 1 ∨ 4 < n) (w : World) : Calls Try.prog 31 #[.int .i64 n] w (AsmNo w) := by
  rcases h with h | h
  · go_enter Try.func31, Try.ntmps31
    go_wp2
    go_returns
    exact ⟨rfl, by go_grown⟩
  · have h' : ¬ n < 1 := by omega
    go_enter Try.func31, Try.ntmps31
    go_wp2
    go_returns
    exact ⟨rfl, by go_grown⟩
set_option maxRecDepth 100000 in
theorem sasm_no (n : Int) (h : n < 1 ∨ 4 < n) (w : World) : Calls Try.prog 30 #[.int .i64 n] w (AsmNo w) := by
  have hb : inB n 1 4 = false := inB_no (by omega)
  go_enter Try.func30, Try.ntmps30
  go_wp2_with (go_at_call 55; refine (in_any _ _ _ _).mono ?_; rintro e w' ⟨rfl, rfl⟩)
  go_returns
  exact ⟨rfl, by go_grown⟩

def AsmYes (n : Nat) (w : World) (e : Ending) (w' : World) : Prop :=
  ∃ A c B d, e = .returned (.tuple #[.agg #[.slice A n c, .slice B 0 d], .bool true]) ∧ Own w' w.heap.size 3 1 A n c ((List.replicate n (0 : Int)).map (Value.int .i64)) ∧
    Own w' w.heap.size 45 7 B 0 d [] ∧ Below w.heap.size w w'
set_option maxRecDepth 100000 in
theorem iasm_yes (n : Nat) (h1 : 1 ≤ n) (h2 : n ≤ 4) (w : World) : Calls Try.prog 31 #[.int .i64 n] w (AsmYes n w) := by
  obtain ⟨i0, hi, hz0, hz1, hz2⟩ := info_parts info_int
  go_enter Try.func31, Try.ntmps31
  go_wp2_with (first | (at_make; refine wpList_make_full _ rfl _ _ _ rfl (w.heap.size + 1) 3 i0 (.int .i64 0) 1 Try.underlying33 hi hz0 hz1 .i64 .i64 (n : Int) (n : Int) n rfl rfl rfl rfl (by rw [hz2]; omega) (by unfold maxLen; omega) (by simp) ?_; intro w1 hown hg; have hB := (Blk.new w _ _).grown hg (by simp); have c0 := hB.get 0 rfl; have c1 := hB.get 1 rfl; have f0 := hB.frozen 0; have f1 := hB.frozen 1; have z1 := lt_of_grown hg; have O := Lib.hid hown; have G := Lib.hid hg; clear hown hg hB))
  refine bodyPost_ret (v := .tuple #[.agg #[.slice (some ⟨w.heap.size + 1, 0, none⟩) n n, .slice none 0 0], .bool true]) (by simp [results, Try.results31, go_sem, c0, c1]) rfl ?_
  have hb : Below w.heap.size w w1 := below_of_alloc G.out (fun _ e => by cases e)
  have ho : Own w1 (w.heap.size + 1) 3 1 (some ⟨w.heap.size + 1, 0, none⟩) n n ((List.replicate n (0 : Int)).map (Value.int .i64)) := by
    have h := O.out
    rw [Nat.mul_one, show (Value.int .i64 0).cells = #[Value.int .i64 0] from rfl, toList_madeCells_one] at h
    rw [List.map_replicate]
    simpa [Own] using h
  exact ⟨_, _, _, _, rfl, ((ho.setLow (Nat.lt_succ_self _) _).setLow (Nat.lt_succ_self _) _).lower (Nat.le_succ _), Own.nil _ _ _ _, (hb.setCell (Nat.le_refl _) _).setCell (Nat.le_refl _) _⟩
set_option maxRecDepth 100000 in
theorem sasm_yes (n : Nat) (h1 : 1 ≤ n) (h2 : n ≤ 4) (w : World) : Calls Try.prog 30 #[.int .i64 n] w (AsmYes n w) := by
  obtain ⟨i0, hi, hz0, hz1, hz2⟩ := info_parts info_int
  have hb : inB n 1 4 = true := inB_mk (by omega)
  go_enter Try.func30, Try.ntmps30
  go_wp2_with (first | (at_make; refine wpList_make_full _ rfl _ _ _ rfl (w.heap.size + 1) 3 i0 (.int .i64 0) 1 Try.underlying33 hi hz0 hz1 .i64 .i64 (n : Int) (n : Int) n rfl rfl rfl rfl (by rw [hz2]; omega) (by unfold maxLen; omega) (by simp) ?_; intro w1 hown hg; have hB := (Blk.new w _ _).grown hg (by simp); have c0 := hB.get 0 rfl; have c1 := hB.get 1 rfl; have f0 := hB.frozen 0; have f1 := hB.frozen 1; have z1 := lt_of_grown hg; have O := Lib.hid hown; have G := Lib.hid hg; clear hown hg hB) | (go_at_call 55; refine (in_any _ _ _ _).mono ?_; rintro e w' ⟨rfl, rfl⟩))
  refine bodyPost_ret (v := .tuple #[.agg #[.slice (some ⟨w.heap.size + 1, 0, none⟩) n n, .slice (some ⟨w1.heap.size, 0, none⟩) 0 0], .bool true]) (by simp [results, Try.results30, go_sem, c0, c1, z1]) rfl ?_
  have hb : Below w.heap.size w w1 := below_of_alloc G.out (fun _ e => by cases e)
  have ho : Own w1 (w.heap.size + 1) 3 1 (some ⟨w.heap.size + 1, 0, none⟩) n n ((List.replicate n (0 : Int)).map (Value.int .i64)) := by
    have h := O.out
    rw [Nat.mul_one, show (Value.int .i64 0).cells = #[Value.int .i64 0] from rfl, toList_madeCells_one] at h
    rw [List.map_replicate]
    simpa [Own] using h
  refine ⟨_, _, _, _, rfl, (((ho.setLow (Nat.lt_succ_self _) _).setLow (Nat.lt_succ_self _) _).alloc _).lower (Nat.le_succ _), ?_, (((hb.setCell (Nat.le_refl _) _).setCell (Nat.le_refl _) _).alloc (by simp; omega) _)⟩
  have h := Own.made ((w1.setCell ⟨w.heap.size, 0, none⟩ (.slice (some ⟨w.heap.size + 1, 0, none⟩) n n)).setCell ⟨w.heap.size, 1, none⟩ (.slice (some ⟨w1.heap.size, 0, none⟩) 0 0)) w.heap.size 45 7 #[] 0 (by simp; omega) (by unfold maxLen; omega) rfl
  simpa using h
end Go.Proofs.Ytkhaodbcnnlhaaa
