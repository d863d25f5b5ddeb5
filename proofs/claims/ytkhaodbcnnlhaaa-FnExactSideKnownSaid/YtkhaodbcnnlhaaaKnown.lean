/-
  What SideKnown returns, in the program and in the reference. Conditions: those that each theorem bears.
-/
import Derived.Test.YtkhaodbcnnlhaaaSaid
namespace Go.Proofs.Ytkhaodbcnnlhaaa
open Go.ChangeShapes Go.WideShapes Go.ChangeAt Go.RowKit
set_option linter.unusedVariables false
set_option linter.unusedSimpArgs false
set_option maxHeartbeats 1600000 in
theorem iside_known (tag st fi ac : Int) (A : Option Addr) (m c : Nat) (ps : List Dat) {r : List Msg} (hr : knownL tag st fi ac ps = r) (w : World) (hp : Sl w w.heap.size A (dats ps)) (hm : ps.length = m) (hmd : m ≤ c) (hd2 : c ≤ 9223372036854775807) (hm2 : m ≤ 1048576) (ht : Dats ps) :
    Calls Try.prog 27 #[.agg #[.int .i64 tag, .int .i64 st, .int .i64 fi, .slice A m c, .int .i64 ac]] w (MadeMsgs r w) := by
  have HP := Lib.hid hp; have HM := Lib.hid hm; have HT := Lib.hid ht; have HR := Lib.hid hr; clear hp hm ht hr
  obtain ⟨v, hv⟩ : ∃ v, sideB tag st fi ac ps = v := ⟨_, rfl⟩
  have HV := Lib.hid hv
  clear hv
  go_enter Try.func27, Try.ntmps27
  go_wp2_with fail
  refine (iside_valid _ _ _ _ _ _ _ ps HV.out _ ((HP.out.alloc (Nat.le_refl _) _).more (by simp)) HM.out hmd hd2 HT.out).mono ?_
  rintro e w1 ⟨rfl, b1'⟩
  obtain ⟨q1, z1, b1⟩ := boxed b1'
  have B1 := Lib.hid b1
  have Q1 := Lib.hid q1
  clear b1 b1' q1
  have x0 : w1.cell? ⟨w.heap.size, 0, none⟩ = some (.int .i64 tag) := Q1.out.get 0 rfl
  have x1 : w1.cell? ⟨w.heap.size, 1, none⟩ = some (.int .i64 st) := Q1.out.get 1 rfl
  have x2 : w1.cell? ⟨w.heap.size, 2, none⟩ = some (.int .i64 fi) := Q1.out.get 2 rfl
  have x3 : w1.cell? ⟨w.heap.size, 3, none⟩ = some (.slice A m c) := Q1.out.get 3 rfl
  have x4 : w1.cell? ⟨w.heap.size, 4, none⟩ = some (.int .i64 ac) := Q1.out.get 4 rfl
  cases v with
  | false =>
    have hE : r = [] := by rw [← HR.out, known_no HV.out]
    subst hE
    go_wp2
    go_ret
    exact ⟨none, 0, 0, rfl, rfl, Own.nil _ _ _ _, B1.out⟩
  | true =>
    have h3 := (side_turn HV.out).2
    have h0 : 0 ≤ ac := h3.1
    have h1 : ac ≤ (m : Int) := by rw [← HM.out]; exact h3.2.1
    have h2 : (m : Int) ≤ (c : Int) := by omega
    clear h3
    obtain ⟨k, rfl⟩ : ∃ k : Nat, ac = (k : Int) := ⟨ac.toNat, by omega⟩
    have HE := Lib.hid (show saidI (ps.take k) ⟨#[]⟩ = r from by have h := known_imp HV.out; rw [Int.toNat_natCast] at h; exact h.trans HR.out)
    have HX := Lib.hid (fun d (hd : d ∈ ps.take k) => side_ok HV.out d (List.mem_of_mem_take hd))
    clear HV
    go_wp2_with fail
    refine (isaid_in _ _ _ (ps.take k) _ ((((HP.out.below B1.out (Nat.le_refl _)).more B1.out.size).dat_take k)) (by rw [List.length_take, HM.out]; omega) (by omega) HX.out HE.out).mono ?_
    rintro e w2 ⟨A2, n2, c2, rfl, hl, o2, b2⟩
    have hsz := B1.out.size
    have O2 := Lib.hid o2
    have B2 := Lib.hid (bstep B1.out b2 hsz)
    clear o2 b2 x0 x1 x2 x3 x4
    go_wp2
    go_ret
    exact ⟨A2, n2, c2, rfl, hl, O2.out.lower hsz, B2.out⟩
set_option maxHeartbeats 1600000 in
theorem sside_known (tag st fi ac : Int) (A : Option Addr) (m c : Nat) (ps : List Dat) {r : List Msg} (hr : knownL tag st fi ac ps = r) (w : World) (hp : Sl w w.heap.size A (dats ps)) (hm : ps.length = m) (hmd : m ≤ c) (hd2 : c ≤ 9223372036854775807) (hm2 : m ≤ 1048576) (ht : Dats ps) :
    Calls Try.prog 25 #[.agg #[.int .i64 tag, .int .i64 st, .int .i64 fi, .slice A m c, .int .i64 ac]] w (MadeMsgs r w) := by
  have HP := Lib.hid hp; have HM := Lib.hid hm; have HT := Lib.hid ht; have HR := Lib.hid hr; clear hp hm ht hr
  obtain ⟨v, hv⟩ : ∃ v, sideB tag st fi ac ps = v := ⟨_, rfl⟩
  have HV := Lib.hid hv
  clear hv
  go_enter Try.func25, Try.ntmps25
  go_wp2_with fail
  refine (sside_valid _ _ _ _ _ _ _ ps HV.out _ ((HP.out.alloc (Nat.le_refl _) _).more (by simp)) HM.out hmd hd2 HT.out).mono ?_
  rintro e w1 ⟨rfl, b1'⟩
  obtain ⟨q1, z1, b1⟩ := boxed b1'
  have B1 := Lib.hid b1
  have Q1 := Lib.hid q1
  clear b1 b1' q1
  have x0 : w1.cell? ⟨w.heap.size, 0, none⟩ = some (.int .i64 tag) := Q1.out.get 0 rfl
  have x1 : w1.cell? ⟨w.heap.size, 1, none⟩ = some (.int .i64 st) := Q1.out.get 1 rfl
  have x2 : w1.cell? ⟨w.heap.size, 2, none⟩ = some (.int .i64 fi) := Q1.out.get 2 rfl
  have x3 : w1.cell? ⟨w.heap.size, 3, none⟩ = some (.slice A m c) := Q1.out.get 3 rfl
  have x4 : w1.cell? ⟨w.heap.size, 4, none⟩ = some (.int .i64 ac) := Q1.out.get 4 rfl
  cases v with
  | false =>
    have hE : r = [] := by rw [← HR.out, known_no HV.out]
    subst hE
    go_wp2
    go_ret
    exact ⟨some ⟨w1.heap.size, 0, none⟩, 0, 0, rfl, rfl, (Own.made w1 w1.heap.size 64 4 #[] 0 (Nat.le_refl _) (by unfold maxLen; omega) rfl).lower B1.out.size, B1.out.alloc B1.out.size _⟩
  | true =>
    have h3 := (side_turn HV.out).2
    have h0 : 0 ≤ ac := h3.1
    have h1 : ac ≤ (m : Int) := by rw [← HM.out]; exact h3.2.1
    have h2 : (m : Int) ≤ (c : Int) := by omega
    clear h3
    obtain ⟨k, rfl⟩ : ∃ k : Nat, ac = (k : Int) := ⟨ac.toNat, by omega⟩
    have HE := Lib.hid (show saidS (ps.take k) ⟨#[]⟩ = r from by have h := known_yes HV.out; rw [Int.toNat_natCast] at h; exact h.symm.trans HR.out)
    have HX := Lib.hid (fun d (hd : d ∈ ps.take k) => side_ok HV.out d (List.mem_of_mem_take hd))
    clear HV
    go_wp2_with fail
    refine (ssaid_in _ _ _ (ps.take k) _ ((((HP.out.below B1.out (Nat.le_refl _)).more B1.out.size).dat_take k)) (by rw [List.length_take, HM.out]; omega) (by omega) HX.out HE.out).mono ?_
    rintro e w2 ⟨A2, n2, c2, rfl, hl, o2, b2⟩
    have hsz := B1.out.size
    have O2 := Lib.hid o2
    have B2 := Lib.hid (bstep B1.out b2 hsz)
    clear o2 b2 x0 x1 x2 x3 x4
    go_wp2
    go_ret
    exact ⟨A2, n2, c2, rfl, hl, O2.out.lower hsz, B2.out⟩
end Go.Proofs.Ytkhaodbcnnlhaaa
