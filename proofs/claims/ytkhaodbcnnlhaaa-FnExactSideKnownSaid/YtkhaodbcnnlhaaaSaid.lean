/-
  What the functions that gather a side's messages return, in the program and in the reference. Conditions: those that each theorem bears.
-/
import Derived.Test.YtkhaodbcnnlhaaaSaidP
import Derived.Test.YtkhaodbcnnlhaaaSideL
namespace Go.Proofs.Ytkhaodbcnnlhaaa
open Go.ChangeShapes Go.WideShapes Go.ChangeAt Go.RowKit
set_option linter.unusedVariables false
set_option linter.unusedSimpArgs false
set_option maxHeartbeats 3200000 in
set_option maxRecDepth 100000 in
theorem isaid_in (A : Option Addr) (n c : Nat) (l : List Dat) (w : World) (hs : Sl w w.heap.size A (dats l)) (hn : l.length = n) (hm : n ≤ 1048576) (hx : ∀ d ∈ l, d.text.size ≤ 20) {r : List Msg} (hr : saidI l ⟨#[]⟩ = r) :
    Calls Try.prog 54 #[.slice A n c] w (MadeMsgs r w) := by
  obtain ⟨i0, hi, hz0, hz1, hz2⟩ := info_parts info_msg
  have HS := Lib.hid hs; have HN := Lib.hid hn; have HX := Lib.hid hx; have HR := Lib.hid hr; clear hs hn hx hr
  go_enter Try.func54, Try.ntmps54
  go_wp2
  go_loopw [3, 4, 10] (fun ov tv iv wr => ∃ (k q : Nat) (T : ByteArray) (m : List Msg) (A1 : Option Addr) (c1 : Nat), ov = .slice A1 q c1 ∧ tv = .string T ∧ iv = .int .i64 k ∧ k ≤ n ∧ q ≤ k ∧ Hid (m.length = q) ∧ T.size ≤ 20 * k ∧ Hid (saidI l ⟨#[]⟩ = m ++ saidI (l.drop k) T) ∧ Own wr w.heap.size 64 4 A1 q c1 (msgs m) ∧ Below w.heap.size w wr) (fun ov tv iv _ => n - (intOf iv).toNat)
  case atStart =>
    refine ⟨0, 0, ⟨#[]⟩, [], some ⟨w.heap.size, 0, none⟩, 0, rfl, rfl, rfl, by omega, by omega, Lib.hid rfl, by decide, Lib.hid rfl, ?_, by go_grown⟩
    exact Own.made w w.heap.size 64 4 #[] 0 (Nat.le_refl _) (by unfold maxLen; omega) rfl
  case round =>
    obtain ⟨k, q, T, m, A1, c1, rfl, rfl, rfl, hk, hq, hml, hT, hE, ho, hb⟩ := hrel
    have O := Lib.hid ho
    have B := Lib.hid hb
    clear ho hb
    by_cases hlt : k < n
    · obtain ⟨g, hg⟩ := fget_of_lt (xs := l) (k := k) (by rw [HN.out]; exact hlt)
      obtain ⟨b, off, rfl, hbl, ⟨e0, e1, e2, e3, e4, e5, e6⟩⟩ := dats_elem ((HS.out.below B.out (Nat.le_refl _)).more B.out.size) hg
      have hts := HX.out g (List.mem_of_getElem? hg)
      have HG := Lib.hid hg
      clear hg
      obtain ⟨g0, g1, g2, g3, g4, g5, g6⟩ := g
      change g6.size ≤ 20 at hts
      change World.cell? _ _ = some (.int .i64 g0) at e0
      change World.cell? _ _ = some (.int .i64 g1) at e1
      change World.cell? _ _ = some (.int .i64 g2) at e2
      change World.cell? _ _ = some (.bool g3) at e3
      change World.cell? _ _ = some (.bool g4) at e4
      change World.cell? _ _ = some (.bool g5) at e5
      change World.cell? _ _ = some (.string g6) at e6
      have hsz : (T ++ g6).size = T.size + g6.size := ByteArray.size_append
      have hsz0 : ((⟨#[]⟩ : ByteArray) ++ g6).size = g6.size := by rw [ByteArray.size_append]; exact Nat.zero_add _
      have hbw := B.out.size
      cases g4 with
      | false =>
       cases g3 with
       | false =>
      · have HE : Hid (saidI l ⟨#[]⟩ = m ++ saidI (l.drop (k + 1)) (T ++ g6)) := Lib.hid (hE.out.trans (by rw [saidI_no HG.out rfl]; try exact rfl))
        clear hE
        go_wp2
        go_roundw
        case rel => exact ⟨k + 1, q, T ++ g6, m, A1, c1, rfl, rfl, by go_num, by omega, by omega, hml, by omega, HE, O.out.alloc _, B.out.alloc hbw _⟩
        case measure => simp [intOf]; omega
       | true =>
      · have HE : Hid (saidI l ⟨#[]⟩ = m ++ saidI (l.drop (k + 1)) (⟨#[]⟩ ++ g6)) := Lib.hid (hE.out.trans (by rw [saidI_no HG.out rfl]; try exact rfl))
        clear hE
        go_wp2
        go_roundw
        case rel => exact ⟨k + 1, q, ⟨#[]⟩ ++ g6, m, A1, c1, rfl, rfl, by go_num, by omega, by omega, hml, by omega, HE, O.out.alloc _, B.out.alloc hbw _⟩
        case measure => simp [intOf]; omega
      | true =>
       cases g3 with
       | false =>
      · have HE : Hid (saidI l ⟨#[]⟩ = (m ++ [⟨g1, g2, g5, T ++ g6⟩]) ++ saidI (l.drop (k + 1)) (T ++ g6)) := Lib.hid (hE.out.trans (by rw [saidI_yes HG.out rfl]; try exact (List.append_assoc _ _ _).symm))
        clear hE
        go_wp2_with (at_builtin; refine wpList_app _ rfl (.tmp 22) (.tmp 31) _ rfl w.heap.size 64 i0 (.agg #[.int .i64 0, .int .i64 0, .bool false, .string ⟨#[]⟩]) 4 40 Try.underlying24 hi hz0 hz1 hz2 rfl (by decide) A1 q c1 (msgs m) rfl ((O.out.alloc _).alloc _) (wr.heap.size + 2) (some ⟨wr.heap.size + 1, 0, none⟩) 1 1 (msgs [⟨g1, g2, g5, T ++ g6⟩]) rfl (by have := sl_new (w := wr.alloc (.cells #[.int .i64 g0, .int .i64 g1, .int .i64 g2, .bool false, .bool true, .bool g5, .string g6] 45)) (t := 64) (cs := #[.int .i64 g1, .int .i64 g2, .bool g5, .string (T ++ g6)]) (xs := msgs [⟨g1, g2, g5, T ++ g6⟩]) rfl; simpa using this) rfl (msgs_one _) (by unfold maxLen; omega) (by omega) (by simp; omega) ?_; intro A3 c3 row w3 o3 g3 r3 d3; rw [← msgs_app] at o3; have O3 := Lib.hid o3; have B3 := Lib.hid (below_at ((B.out.alloc hbw _).alloc (by simp; omega) _) (by simp; omega) g3 r3 (fun a ha => (O.out.blk a ha).1)); clear o3 g3 r3 d3)
        go_roundw
        case rel => exact ⟨k + 1, q + 1, T ++ g6, m ++ [⟨g1, g2, g5, T ++ g6⟩], A3, c3, rfl, rfl, by go_num, by omega, by omega, Lib.hid (by rw [List.length_append, hml.out]; rfl), by omega, HE, O3.out, B3.out⟩
        case measure => simp [intOf]; omega
       | true =>
      · have HE : Hid (saidI l ⟨#[]⟩ = (m ++ [⟨g1, g2, g5, ⟨#[]⟩ ++ g6⟩]) ++ saidI (l.drop (k + 1)) (⟨#[]⟩ ++ g6)) := Lib.hid (hE.out.trans (by rw [saidI_yes HG.out rfl]; try exact (List.append_assoc _ _ _).symm))
        clear hE
        go_wp2_with (at_builtin; refine wpList_app _ rfl (.tmp 22) (.tmp 31) _ rfl w.heap.size 64 i0 (.agg #[.int .i64 0, .int .i64 0, .bool false, .string ⟨#[]⟩]) 4 40 Try.underlying24 hi hz0 hz1 hz2 rfl (by decide) A1 q c1 (msgs m) rfl ((O.out.alloc _).alloc _) (wr.heap.size + 2) (some ⟨wr.heap.size + 1, 0, none⟩) 1 1 (msgs [⟨g1, g2, g5, ⟨#[]⟩ ++ g6⟩]) rfl (by have := sl_new (w := wr.alloc (.cells #[.int .i64 g0, .int .i64 g1, .int .i64 g2, .bool true, .bool true, .bool g5, .string g6] 45)) (t := 64) (cs := #[.int .i64 g1, .int .i64 g2, .bool g5, .string (⟨#[]⟩ ++ g6)]) (xs := msgs [⟨g1, g2, g5, ⟨#[]⟩ ++ g6⟩]) rfl; simpa using this) rfl (msgs_one _) (by unfold maxLen; omega) (by omega) (by simp; omega) ?_; intro A3 c3 row w3 o3 g3 r3 d3; rw [← msgs_app] at o3; have O3 := Lib.hid o3; have B3 := Lib.hid (below_at ((B.out.alloc hbw _).alloc (by simp; omega) _) (by simp; omega) g3 r3 (fun a ha => (O.out.blk a ha).1)); clear o3 g3 r3 d3)
        go_roundw
        case rel => exact ⟨k + 1, q + 1, ⟨#[]⟩ ++ g6, m ++ [⟨g1, g2, g5, ⟨#[]⟩ ++ g6⟩], A3, c3, rfl, rfl, by go_num, by omega, by omega, Lib.hid (by rw [List.length_append, hml.out]; rfl), by omega, HE, O3.out, B3.out⟩
        case measure => simp [intOf]; omega
    · have HE := Lib.hid (HR.out.symm.trans (hE.out.trans (by rw [saidI_end (by rw [HN.out]; omega), List.append_nil])))
      clear hE
      go_wp2
      go_ret
      exact ⟨A1, q, c1, rfl, by rw [HE.out]; exact hml.out, by rw [HE.out]; exact O.out, B.out⟩
set_option maxHeartbeats 3200000 in
set_option maxRecDepth 100000 in
theorem ssaid_in (A : Option Addr) (n c : Nat) (l : List Dat) (w : World) (hs : Sl w w.heap.size A (dats l)) (hn : l.length = n) (hm : n ≤ 1048576) (hx : ∀ d ∈ l, d.text.size ≤ 20) {r : List Msg} (hr : saidS l ⟨#[]⟩ = r) :
    Calls Try.prog 52 #[.slice A n c] w (MadeMsgs r w) := by
  obtain ⟨i0, hi, hz0, hz1, hz2⟩ := info_parts info_msg
  have HS := Lib.hid hs; have HN := Lib.hid hn; have HX := Lib.hid hx; have HR := Lib.hid hr; clear hs hn hx hr
  go_enter Try.func52, Try.ntmps52
  go_wp2
  go_loopw [3, 4, 5] (fun ov tv iv wr => ∃ (k q : Nat) (T : ByteArray) (m : List Msg) (A1 : Option Addr) (c1 : Nat), ov = .slice A1 q c1 ∧ tv = .string T ∧ iv = .int .i64 k ∧ k ≤ n ∧ q ≤ k ∧ Hid (m.length = q) ∧ T.size ≤ 20 * k ∧ Hid (saidS l ⟨#[]⟩ = m ++ saidS (l.drop k) T) ∧ Own wr w.heap.size 64 4 A1 q c1 (msgs m) ∧ Below w.heap.size w wr) (fun ov tv iv _ => n - (intOf iv).toNat)
  case atStart =>
    refine ⟨0, 0, ⟨#[]⟩, [], some ⟨w.heap.size, 0, none⟩, 0, rfl, rfl, rfl, by omega, by omega, Lib.hid rfl, by decide, Lib.hid rfl, ?_, by go_grown⟩
    exact Own.made w w.heap.size 64 4 #[] 0 (Nat.le_refl _) (by unfold maxLen; omega) rfl
  case round =>
    obtain ⟨k, q, T, m, A1, c1, rfl, rfl, rfl, hk, hq, hml, hT, hE, ho, hb⟩ := hrel
    have O := Lib.hid ho
    have B := Lib.hid hb
    clear ho hb
    by_cases hlt : k < n
    · obtain ⟨g, hg⟩ := fget_of_lt (xs := l) (k := k) (by rw [HN.out]; exact hlt)
      obtain ⟨b, off, rfl, hbl, ⟨e0, e1, e2, e3, e4, e5, e6⟩⟩ := dats_elem ((HS.out.below B.out (Nat.le_refl _)).more B.out.size) hg
      have hts := HX.out g (List.mem_of_getElem? hg)
      have HG := Lib.hid hg
      clear hg
      obtain ⟨g0, g1, g2, g3, g4, g5, g6⟩ := g
      change g6.size ≤ 20 at hts
      change World.cell? _ _ = some (.int .i64 g0) at e0
      change World.cell? _ _ = some (.int .i64 g1) at e1
      change World.cell? _ _ = some (.int .i64 g2) at e2
      change World.cell? _ _ = some (.bool g3) at e3
      change World.cell? _ _ = some (.bool g4) at e4
      change World.cell? _ _ = some (.bool g5) at e5
      change World.cell? _ _ = some (.string g6) at e6
      have hsz : (T ++ g6).size = T.size + g6.size := ByteArray.size_append
      have hsz0 : ((⟨#[]⟩ : ByteArray) ++ g6).size = g6.size := by rw [ByteArray.size_append]; exact Nat.zero_add _
      have hbw := B.out.size
      cases g4 with
      | false =>
      · have HE : Hid (saidS l ⟨#[]⟩ = m ++ saidS (l.drop (k + 1)) (T ++ g6)) := Lib.hid (hE.out.trans (by rw [saidS_no HG.out rfl]; try exact rfl))
        clear hE
        go_wp2
        go_roundw
        case rel => exact ⟨k + 1, q, T ++ g6, m, A1, c1, rfl, rfl, by go_num, by omega, by omega, hml, by omega, HE, O.out.alloc _, B.out.alloc hbw _⟩
        case measure => simp [intOf]; omega
      | true =>
      · have HE : Hid (saidS l ⟨#[]⟩ = (m ++ [⟨g1, g2, g5, T ++ g6⟩]) ++ saidS (l.drop (k + 1)) (⟨#[]⟩)) := Lib.hid (hE.out.trans (by rw [saidS_yes HG.out rfl]; try exact (List.append_assoc _ _ _).symm))
        clear hE
        go_wp2_with (at_builtin; refine wpList_app _ rfl (.tmp 24) (.tmp 33) _ rfl w.heap.size 64 i0 (.agg #[.int .i64 0, .int .i64 0, .bool false, .string ⟨#[]⟩]) 4 40 Try.underlying24 hi hz0 hz1 hz2 rfl (by decide) A1 q c1 (msgs m) rfl ((O.out.alloc _).alloc _) (wr.heap.size + 2) (some ⟨wr.heap.size + 1, 0, none⟩) 1 1 (msgs [⟨g1, g2, g5, T ++ g6⟩]) rfl (by have := sl_new (w := wr.alloc (.cells #[.int .i64 g0, .int .i64 g1, .int .i64 g2, .bool g3, .bool true, .bool g5, .string g6] 45)) (t := 64) (cs := #[.int .i64 g1, .int .i64 g2, .bool g5, .string (T ++ g6)]) (xs := msgs [⟨g1, g2, g5, T ++ g6⟩]) rfl; simpa using this) rfl (msgs_one _) (by unfold maxLen; omega) (by omega) (by simp; omega) ?_; intro A3 c3 row w3 o3 g3 r3 d3; rw [← msgs_app] at o3; have O3 := Lib.hid o3; have B3 := Lib.hid (below_at ((B.out.alloc hbw _).alloc (by simp; omega) _) (by simp; omega) g3 r3 (fun a ha => (O.out.blk a ha).1)); clear o3 g3 r3 d3)
        go_roundw
        case rel => exact ⟨k + 1, q + 1, ⟨#[]⟩, m ++ [⟨g1, g2, g5, T ++ g6⟩], A3, c3, rfl, rfl, by go_num, by omega, by omega, Lib.hid (by rw [List.length_append, hml.out]; rfl), by show 0 ≤ _; omega, HE, O3.out, B3.out⟩
        case measure => simp [intOf]; omega
    · have HE := Lib.hid (HR.out.symm.trans (hE.out.trans (by rw [saidS_end (by rw [HN.out]; omega), List.append_nil])))
      clear hE
      go_wp2
      go_ret
      exact ⟨A1, q, c1, rfl, by rw [HE.out]; exact hml.out, by rw [HE.out]; exact O.out, B.out⟩
end Go.Proofs.Ytkhaodbcnnlhaaa
