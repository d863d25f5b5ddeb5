/-
  The walk of 'FnExactSeenHas'. Condition: the list can be read.
-/
import Derived.Test.YtglebkjhfofkcaaSeenH
import Derived.Deep.RegionWith
import Derived.Deep.RegionHeld3
namespace Go.Proofs.Ytglebkjhfofkcaa
open Go.ChangeShapes Go.WideShapes Go.ChangeAt Go.RowKit
set_option linter.unusedVariables false
theorem walkFnExactSeenHas (cum : Int) (A : Option Addr) (n c : Nat) (zs : List Int) (tsn : Int) (w : World) (hcum : -9223372036854775808 ≤ cum ∧ cum ≤ 9223372036854775807) (hs : Sl w w.heap.size A (ints zs)) (hn : zs.length = n) (hc : n ≤ c) (hm : c ≤ maxLen)
    (hz : ∀ z ∈ zs, -9223372036854775808 ≤ z ∧ z ≤ 9223372036854775807) (ht : -9223372036854775808 ≤ tsn ∧ tsn ≤ 9223372036854775807) :
    Calls Try.prog 4 #[.agg #[.int .i64 cum, .slice A n c], .int .i64 tsn] w fun e w' => e = .returned (.bool true) ∧ Below w.heap.size w w' := by
  have HS := Lib.hid hs; have HN := Lib.hid hn; clear hs hn hz
  have hm2 : n ≤ 9223372036854775807 := by unfold maxLen at hm; omega
  by_cases hbig : 1048576 < n
  · go_enter Try.func4, Try.ntmps4
    go_wp2_with fail
    refine (sz_seen_big _ _ _ _ _ hm2 hbig).mono ?_
    rintro e w1 ⟨rfl, b1⟩
    go_wp2
    go_ret
    exact ⟨rfl, bstep ((Below.refl _ w).alloc (Nat.le_refl _) _) b1 (by simp)⟩
  · have hge : ¬ ((1048576 : Int) - n < 0) := by omega
    go_enter Try.func4, Try.ntmps4
    go_wp2_with fail
    refine (sz_seen_ok _ _ _ _ _ hm2 (by omega)).mono ?_
    rintro e w1 ⟨rfl, b1'⟩
    obtain ⟨q1, z1, b1⟩ := boxed b1'
    have x0 := q1.get 0 rfl
    have x1 := q1.get 1 rfl
    have Q1 := Lib.hid q1
    clear b1' q1
    go_wp2_with fail
    refine (to_seen _ _ _ _ zs _ ((HS.out.below b1 (Nat.le_refl _)).more b1.size) HN.out (by omega)).mono ?_
    rintro e w2 ⟨A2, c2, rfl, o2, b2⟩
    have O2 := Lib.hid o2; clear o2
    go_wp2_with fail
    refine (sseen_has _ _ _ _ zs _ _ O2.out.sl HN.out hm2).mono ?_
    rintro e w3 ⟨rfl, b3⟩
    have Q3 := (Q1.out.below b2 Q1.out.lt).below b3 (Nat.lt_of_lt_of_le Q1.out.lt b2.size)
    have y0 := Q3.get 0 rfl
    have y1 := Q3.get 1 rfl
    have B3 := Lib.hid (bstep b1 (bstep b2 b3 b2.size) b1.size)
    have QQ3 := Lib.hid Q3
    clear x0 x1 Q3 b1 b2 b3
    go_wp2_with fail
    refine (to_seen _ _ _ _ zs _ ((HS.out.below B3.out (Nat.le_refl _)).more B3.out.size) HN.out (by omega)).mono ?_
    rintro e w4 ⟨A4, c4, rfl, o4, b4⟩
    have Q4 := QQ3.out.below b4 QQ3.out.lt
    have y0 := Q4.get 0 rfl
    have y1 := Q4.get 1 rfl
    have O4 := Lib.hid o4
    have B4 := Lib.hid b4
    have QQ4 := Lib.hid Q4
    clear Q4 o4 b4
    go_wp2_with fail
    refine (iseen_has _ _ _ _ zs _ _ ((O4.out.sl.alloc (Nat.le_refl _) _).more (by simp)) HN.out hm2).mono ?_
    rintro e w5 ⟨rfl, b5'⟩
    obtain ⟨q5, z5, b5⟩ := boxed b5'
    have Q5 := QQ4.out.below b5 QQ4.out.lt
    have O5 := Lib.hid (O4.out.below b5 (Nat.le_refl _))
    have B5 := Lib.hid (bstep B3.out (bstep B4.out b5 B4.out.size) B3.out.size)
    have y0 := Q5.get 0 rfl
    have y1 := Q5.get 1 rfl
    have v0 := q5.get 0 rfl
    have v1 := q5.get 1 rfl
    have QQ5 := Lib.hid Q5
    have QX5 := Lib.hid q5
    clear b5' b5 Q5 q5
    go_wp2_with fail
    simp only [List.getElem_toArray, List.getElem_cons_zero, List.getElem_cons_succ] at y0 y1 v0 v1
    go_region_held3 (fun w' => w'.cell? ⟨w.heap.size, 0, none⟩ = some (.int .i64 cum) ∧ w'.cell? ⟨w.heap.size, 1, none⟩ = some (.slice A n c) ∧ w'.cell? ⟨w4.heap.size, 0, none⟩ = some (.int .i64 cum) ∧ w'.cell? ⟨w4.heap.size, 1, none⟩ = some (.slice A4 n c4)) (first | exact ⟨y0, y1, v0, v1⟩ | exact ⟨y0', y1', v0', v1'⟩ | exact ⟨y0'', y1'', v0'', v1''⟩ | go_keep)
      (first
        | (go_at_call 29; refine (to_seen _ _ _ _ zs _ ((HS.out.below (below_drewN B5.out 1) (Nat.le_refl _)).more B5.out.size) HN.out (by omega)).mono ?_; rintro e w6 ⟨A6, c6, rfl, o6, b6⟩; have O6 := Lib.hid (o6.sl); have O5' := Lib.hid ((O5.out.drew.below b6 (Nat.le_refl _)).sl); have QX6 := QX5.out.drew.below b6 QX5.out.lt; have QY6 := QQ5.out.drew.below b6 QQ5.out.lt; have v0' : w6.cell? ⟨w4.heap.size, 0, none⟩ = some (.int .i64 cum) := QX6.get 0 rfl; have v1' : w6.cell? ⟨w4.heap.size, 1, none⟩ = some (.slice A4 n c4) := QX6.get 1 rfl; have y0' : w6.cell? ⟨w.heap.size, 0, none⟩ = some (.int .i64 cum) := QY6.get 0 rfl; have y1' : w6.cell? ⟨w.heap.size, 1, none⟩ = some (.slice A n c) := QY6.get 1 rfl; have B6 := Lib.hid (bstep B5.out.drew b6 B5.out.size); have QXh := Lib.hid QX6; have QYh := Lib.hid QY6; clear QX6 QY6 o6 b6)
        | (go_at_call 30; refine (eq_seen _ _ _ _ _ _ zs _ O5'.out O6.out HN.out hm2).mono ?_; rintro e w7 ⟨rfl, b7⟩; have v0'' : w7.cell? ⟨w4.heap.size, 0, none⟩ = some (.int .i64 cum) := (QXh.out.below b7 QXh.out.lt).get 0 rfl; have v1'' : w7.cell? ⟨w4.heap.size, 1, none⟩ = some (.slice A4 n c4) := (QXh.out.below b7 QXh.out.lt).get 1 rfl; have y0'' : w7.cell? ⟨w.heap.size, 0, none⟩ = some (.int .i64 cum) := (QYh.out.below b7 QYh.out.lt).get 0 rfl; have y1'' : w7.cell? ⟨w.heap.size, 1, none⟩ = some (.slice A n c) := (QYh.out.below b7 QYh.out.lt).get 1 rfl))
    all_goals
      go_wp2
      go_ret
      exact ⟨rfl, bstep B6.out b7 B6.out.size⟩
end Go.Proofs.Ytglebkjhfofkcaa
