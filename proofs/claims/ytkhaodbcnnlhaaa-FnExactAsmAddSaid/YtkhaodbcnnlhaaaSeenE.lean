/-
  What the helpers of the exact laws on Seen return: sizes, copies, comparisons, marks. Conditions: those that each theorem bears.
-/
import Derived.Test.YtkhaodbcnnlhaaaSeenV
import Derived.Test.YtkhaodbcnnlhaaaSame
namespace Go.Proofs.Ytkhaodbcnnlhaaa
open Go.ChangeShapes Go.WideShapes Go.ChangeAt Go.RowKit
set_option linter.unusedVariables false

theorem sz_ints (A : Option Addr) (n c : Nat) (L : Int) (w : World) (hL : 0 ≤ L ∧ L ≤ 1048576) (hm : n ≤ 9223372036854775807) :
    Calls Try.prog 35 #[.slice A n c, .int .i64 L] w fun e w' => e = .returned (.int .i64 (if L < n then -1 else L - n)) ∧ w = w' := by
  obtain ⟨h1, h2⟩ := hL
  by_cases h : L < n
  · rw [if_pos h]
    have h' : L - n < 0 := by omega
    go_enter Try.func35, Try.ntmps35
    go_wp2
    go_ret
    exact ⟨rfl, rfl⟩
  · rw [if_neg h]
    have h' : ¬ L - n < 0 := by omega
    go_enter Try.func35, Try.ntmps35
    go_wp2
    go_ret
    exact ⟨rfl, rfl⟩

theorem get_of_lt {α : Type} {xs : List α} {k : Nat} (h : k < xs.length) : ∃ z, xs[k]? = some z := ⟨_, List.getElem?_eq_getElem h⟩
theorem take_succ_of {α : Type} {xs : List α} {k : Nat} {z : α} (h : xs[k]? = some z) : xs.take (k + 1) = xs.take k ++ [z] := by rw [List.take_add_one, h]; rfl
theorem ints_at_ {zs : List Int} {k : Nat} {z : Int} (h : zs[k]? = some z) : (ints zs)[k]? = some (.int .i64 z) := by unfold ints; rw [List.getElem?_map, h]; rfl
theorem take_set_succ {α : Type} : ∀ (ys : List α) (k : Nat) (z : α), k < ys.length → (ys.set k z).take (k + 1) = ys.take k ++ [z]
  | [], _, _, h => by simp at h
  | y :: ys, 0, z, _ => by simp
  | y :: ys, k + 1, z, h => by simp only [List.set_cons_succ, List.take_succ_cons, List.cons_append]; rw [take_set_succ ys k z (by simpa using h)]
theorem ints_set (ys : List Int) (k : Nat) (z : Int) : (ints ys).set k (.int .i64 z) = ints (ys.set k z) := by unfold ints; rw [List.map_set]
theorem info_int' : (Try.prog.info? 3).map (fun i => (i.zero, i.size, i.bytes)) = some (some (.int .i64 0), 1, 8) := by kernel_rfl
theorem Own.put {w : World} {base : Nat} {e : TypeId} {size g n c : Nat} {xs : List Value} (h : Own w base e size (some ⟨g, 0, none⟩) n c xs) (j : Nat) (u : Value) : Own (w.setCell ⟨g, j, none⟩ u) base e size (some ⟨g, 0, none⟩) n c (xs.set j u) := (World.ownsRow.stored (w := w) h j u).1
theorem Own.cell {w : World} {base : Nat} {e : TypeId} {size g n c : Nat} {xs : List Value} (h : Own w base e size (some ⟨g, 0, none⟩) n c xs) (j : Nat) {u : Value} (hu : xs[j]? = some u) : w.cell? ⟨g, j, none⟩ = some u := by
  have hj : j < n * size := by
    have h1 := (List.getElem?_eq_some_iff.1 hu).1
    rw [h.1] at h1
    exact h1
  exact (World.ownsRow.cellAt (w := w) h j hj).trans hu
theorem Own.froz {w : World} {base : Nat} {e : TypeId} {size g n c : Nat} {xs : List Value} (h : Own w base e size (some ⟨g, 0, none⟩) n c xs) (j : Nat) : w.frozen? ⟨g, j, none⟩ = false := World.ownsRow.frozenAt (w := w) h j

def MadeInts (zs : List Int) (n : Nat) (w : World) (e : Ending) (w' : World) : Prop :=
  ∃ A c, e = .returned (.slice A n c) ∧ Own w' w.heap.size 3 1 A n c (ints zs) ∧ Below w.heap.size w w'
theorem to_ints (A : Option Addr) (n c : Nat) (zs : List Int) (w : World) (hs : Sl w w.heap.size A (ints zs)) (hn : zs.length = n) (hm : n ≤ 1048576) :
    Calls Try.prog 41 #[.slice A n c] w (MadeInts zs n w) := by
  obtain ⟨i0, hi, hz0, hz1, hz2⟩ := info_parts info_int'
  have HS := Lib.hid hs; have HN := Lib.hid hn; clear hs hn
  go_enter Try.func41, Try.ntmps41
  go_wp2_with (at_make; refine wpList_make_full _ rfl _ _ _ rfl w.heap.size 3 i0 (.int .i64 0) 1 Try.underlying33 hi hz0 hz1 .i64 .i64 (n : Int) (n : Int) n rfl rfl rfl rfl (by rw [hz2]; omega) (by unfold maxLen; omega) (Nat.le_refl _) ?_; intro w1 hown hg; have O := Lib.hid hown; have G := Lib.hid hg; clear hown hg)
  go_loopw [4] (fun i wr => ∃ (k : Nat) (ys : List Int), k ≤ n ∧ i = .int .i64 k ∧ Own wr w.heap.size 3 1 (some ⟨w.heap.size, 0, none⟩) n n (ints ys) ∧ Hid (ys.length = n) ∧ Hid (ys.take k = zs.take k) ∧ Below w.heap.size w wr) (fun i _ => n - (intOf i).toNat)
  case atStart =>
    have h := O.out
    rw [Nat.mul_one, show (Value.int .i64 0).cells = #[Value.int .i64 0] from rfl, toList_madeCells_one] at h
    exact ⟨0, List.replicate n 0, by omega, rfl, by unfold ints; rw [List.map_replicate]; exact h, Lib.hid (by simp), Lib.hid rfl, (gb_to_below G.out)⟩
  case round =>
    obtain ⟨k, ys, hk, rfl, ho, hyl, hyt, hb⟩ := hrel
    have HO := Lib.hid ho
    have HB := Lib.hid hb
    clear ho hb
    by_cases hlt : k < n
    · obtain ⟨z, hz⟩ := get_of_lt (xs := zs) (k := k) (by rw [HN.out]; exact hlt)
      obtain ⟨y, hy⟩ := get_of_lt (xs := ys) (k := k) (by rw [hyl.out]; exact hlt)
      obtain ⟨b, off, rfl, hbl, hc⟩ := HS.out.at_ (j := k) (by rw [ints_len, HN.out]; exact hlt)
      have e1 := (HB.out.cell (p := ⟨b, off + k, none⟩) hbl).trans (hc k _ (ints_at_ hz))
      have e2 := HO.out.cell k (ints_at_ hy)
      have f2 := HO.out.froz k
      have HZ := Lib.hid hz
      clear hc hbl hz hy
      go_wp2
      go_roundw
      case rel =>
        refine ⟨k + 1, ys.set k z, by omega, by go_num, ?_, Lib.hid (by rw [List.length_set]; exact hyl.out), Lib.hid ?_, HB.out.setCell (Nat.le_refl _) _⟩
        · rw [← ints_set]
          exact HO.out.put k _
        · rw [take_set_succ ys k z (by rw [hyl.out]; exact hlt), hyt.out, take_succ_of HZ.out]
      case measure => simp [intOf]; omega
    · go_wp2
      go_ret
      have hkn : k = n := by omega
      have h1 : ys = zs := by
        have h := hyt.out
        rw [hkn, List.take_of_length_le (by rw [hyl.out]; exact Nat.le_refl _), List.take_of_length_le (by rw [HN.out]; exact Nat.le_refl _)] at h
        exact h
      rw [h1] at HO
      exact ⟨_, _, rfl, HO.out, HB.out⟩

def MadeSeen (cum : Int) (zs : List Int) (n : Nat) (w : World) (e : Ending) (w' : World) : Prop :=
  ∃ A c, e = .returned (.agg #[.int .i64 cum, .slice A n c]) ∧ Own w' w.heap.size 3 1 A n c (ints zs) ∧ Below w.heap.size w w'
theorem eq_ints (A B : Option Addr) (n c d : Nat) (zs : List Int) (w : World) (hA : Sl w w.heap.size A (ints zs)) (hB : Sl w w.heap.size B (ints zs)) (hn : zs.length = n) (hm : n ≤ 9223372036854775807) :
    Calls Try.prog 47 #[.slice A n c, .slice B n d] w (Quiet (.bool true) w) := by
  have HA := Lib.hid hA; have HB := Lib.hid hB; have HN := Lib.hid hn; clear hA hB hn
  go_enter Try.func47, Try.ntmps47
  go_wp2
  go_loopw [5] (fun i wr => ∃ k m : Nat, k ≤ n ∧ i = .int .i64 k ∧ wr = w.drewN m) (fun i _ => n - (intOf i).toNat)
  case atStart => exact ⟨0, 0, by omega, rfl, rfl⟩
  case round =>
    obtain ⟨k, m, hk, rfl, rfl⟩ := hrel
    by_cases hlt : k < n
    · obtain ⟨z, hz⟩ := get_of_lt (xs := zs) (k := k) (by rw [HN.out]; exact hlt)
      obtain ⟨b, off, rfl, hb, hc⟩ := HA.out.at_ (j := k) (by rw [ints_len, HN.out]; exact hlt)
      obtain ⟨b', off', rfl, hb', hc'⟩ := HB.out.at_ (j := k) (by rw [ints_len, HN.out]; exact hlt)
      have e1 := hc k _ (ints_at_ hz)
      have e2 := hc' k _ (ints_at_ hz)
      clear hc hc' hb hb' hz
      go_wp2
      go_quiet (fail)
      go_wp2
      go_roundw
      case rel => exact ⟨k + 1, _, by omega, by go_num, rfl⟩
      case measure => simp [intOf]; omega
    · go_wp2
      go_ret
      exact ⟨rfl, m, rfl⟩

/-! ### Marks -/
def marks (k : Int) : Nat → List Int
  | 0 => []
  | n + 1 => k :: marks (k + 1) n
theorem marks_len : ∀ (n : Nat) (k : Int), (marks k n).length = n
  | 0, _ => rfl
  | n + 1, k => by simp [marks, marks_len n]
theorem marks_get : ∀ (n : Nat) (k : Int) (i : Nat), i < n → (marks k n)[i]? = some (k + i)
  | 0, _, _, h => by omega
  | n + 1, k, 0, _ => by simp [marks]
  | n + 1, k, i + 1, h => by
    simp only [marks, List.getElem?_cons_succ]
    rw [marks_get n (k + 1) i (by omega)]
    congr 1
    omega
def MarkPost (A : Option Addr) (n c : Nat) (k : Int) (base : Nat) (w : World) (e : Ending) (w' : World) : Prop :=
  e = .returned (.int .i64 (k + n)) ∧ Own w' base 3 1 A n c (ints (marks k n)) ∧ ∃ row, w.grownBy w' row ∧ ∀ g, row = some g → ∃ a, A = some a ∧ a.block = g
theorem mark_ints (A : Option Addr) (n c : Nat) (k : Int) (base : Nat) (zs : List Int) (w : World) (ho : Own w base 3 1 A n c (ints zs)) (hk : 0 ≤ k ∧ k ≤ 100000000) (hm : n ≤ 1048576) :
    Calls Try.prog 48 #[.slice A n c, .int .i64 k] w (MarkPost A n c k base w) := by
  obtain ⟨k0, k1⟩ := hk
  have HL := Lib.hid (by have := ho.len; rw [ints_len, Nat.mul_one] at this; exact this : zs.length = n)
  have HO := Lib.hid ho; clear ho
  by_cases hn : n = 0
  · subst hn
    go_enter Try.func48, Try.ntmps48
    go_wp2
    go_rounds 1
    go_ret
    have hz : zs = [] := List.eq_nil_of_length_eq_zero HL.out
    subst hz
    exact ⟨ret_int (by simp), HO.out, none, World.grownBy.refl w _, fun _ e => by cases e⟩
  · obtain ⟨g, rfl⟩ : ∃ g, A = some ⟨g, 0, none⟩ := by
      cases A with
      | none => 
        rcases HO.out.2 with ⟨_, h0⟩ | ⟨g, cap, cur, hv, _⟩
        · exact absurd h0 hn
        · injection hv with hA; cases hA
      | some a => exact ⟨a.block, by rw [← (HO.out.blk a rfl).2.2]⟩
    go_enter Try.func48, Try.ntmps48
    go_wp2
    go_loopw [1, 5] (fun kv i wr => ∃ (j : Nat) (ys : List Int), j ≤ n ∧ i = .int .i64 j ∧ kv = .int .i64 (k + j) ∧ Own wr base 3 1 (some ⟨g, 0, none⟩) n c (ints ys) ∧ Hid (ys.length = n) ∧ Hid (ys.take j = (marks k n).take j) ∧ w.grownBy wr (some g)) (fun _ i _ => n - (intOf i).toNat)
    case atStart => exact ⟨0, zs, by omega, rfl, by simp, HO.out, HL, Lib.hid rfl, World.grownBy.refl w _⟩
    case round =>
      obtain ⟨j, ys, hj, rfl, rfl, ho, hyl, hyt, hg⟩ := hrel
      have HO2 := Lib.hid ho
      have HG := Lib.hid hg
      clear ho hg
      by_cases hlt : j < n
      · obtain ⟨y, hy⟩ := get_of_lt (xs := ys) (k := j) (by rw [hyl.out]; exact hlt)
        have e2 := HO2.out.cell j (ints_at_ hy)
        have f2 := HO2.out.froz j
        clear hy
        go_wp2
        go_roundw
        case rel =>
          refine ⟨j + 1, ys.set j (k + j), by omega, by go_num, by go_num, ?_, Lib.hid (by rw [List.length_set]; exact hyl.out), Lib.hid ?_, gb_setCell HG.out (.inl rfl) _⟩
          · rw [← ints_set]
            exact HO2.out.put j _
          · rw [take_set_succ ys j _ (by rw [hyl.out]; exact hlt), hyt.out, take_succ_of (marks_get n k j hlt)]
        case measure => simp [intOf]; omega
      · go_wp2
        go_ret
        have hjn : j = n := by omega
        have h1 : ys = marks k n := by
          have h := hyt.out
          rw [hjn, List.take_of_length_le (by rw [hyl.out]; exact Nat.le_refl _), List.take_of_length_le (by rw [marks_len]; exact Nat.le_refl _)] at h
          exact h
        rw [h1] at HO2
        exact ⟨ret_int (by omega), HO2.out, some g, HG.out, fun g' e => ⟨_, rfl, by injection e⟩⟩
theorem held_ints (A : Option Addr) (n c : Nat) (k : Int) (w : World) (hA : Sl w w.heap.size A (ints (marks k n))) (hk : 0 ≤ k ∧ k ≤ 100000000) (hm : n ≤ 1048576) :
    Calls Try.prog 49 #[.slice A n c, .int .i64 k] w (Quiet (.int .i64 (k + n)) w) := by
  obtain ⟨k0, k1⟩ := hk
  have HA := Lib.hid hA; clear hA
  go_enter Try.func49, Try.ntmps49
  go_wp2
  go_loopw [1, 5] (fun kv i wr => ∃ j m : Nat, j ≤ n ∧ i = .int .i64 j ∧ kv = .int .i64 (k + j) ∧ wr = w.drewN m) (fun _ i _ => n - (intOf i).toNat)
  case atStart => exact ⟨0, 0, by omega, rfl, by simp, rfl⟩
  case round =>
    obtain ⟨j, m, hj, rfl, rfl, rfl⟩ := hrel
    by_cases hlt : j < n
    · obtain ⟨b, off, rfl, hb, hc⟩ := HA.out.at_ (j := j) (by rw [ints_len, marks_len]; exact hlt)
      have e1 := hc j _ (ints_at_ (marks_get n k j hlt))
      clear hc hb
      go_wp2
      go_roundw
      case rel => exact ⟨j + 1, _, by omega, by go_num, by go_num, rfl⟩
      case measure => simp [intOf]; omega
    · go_wp2
      go_ret
      exact ⟨ret_int (by omega), m, rfl⟩
end Go.Proofs.Ytkhaodbcnnlhaaa
