/-
  When a side is valid, in the program and in the reference. Conditions: those that each theorem bears.
-/
import Derived.Test.YtkhaodbcnnlhaaaSideA
import Derived.Test.YtkhaodbcnnlhaaaAsmV
namespace Go.Proofs.Ytkhaodbcnnlhaaa
open Go.ChangeShapes Go.WideShapes Go.ChangeAt Go.RowKit
set_option linter.unusedVariables false
set_option linter.unusedSimpArgs false
def l3v (a n : Int) : Int := if okB a = true then sadd a n else (IntKind.i64.wrap (IntKind.i64.wrap (a + n.tmod 65536) + 65536)).tmod 65536
theorem l3_eq {a n q : Int} (hq : l3v a n = q) (w : World) : Calls Try.prog 59 #[.int .i64 a, .int .i64 n] w fun e w' => e = .returned (.int .i64 q) ∧ w = w' := by
  subst hq
  by_cases h : okB a = true
  · exact (l3add_any a n h w).mono fun e w' ⟨he, hw⟩ => ⟨by rw [he]; unfold l3v; rw [if_pos h], hw⟩
  · go_enter Try.func59, Try.ntmps59
    go_wp2
    go_ret
    refine ⟨ret_int ?_, rfl⟩
    unfold l3v
    rw [if_neg h]
    rw [IntWalk.i64_left, IntWalk.i64_left]
theorem iadd_eq {a n q : Int} (hq : sadd a n = q) (w : World) : Calls Try.prog 46 #[.int .i64 a, .int .i64 n] w fun e w' => e = .returned (.int .i64 q) ∧ w = w' := by
  subst hq
  exact iadd_any a n w
def sentFrom (f : Nat → Int) (st : Int) (ps : List Dat) : List Dat → Nat → Bool
  | [], _ => true
  | d :: l, i => (datB d && (d.tsn == f i) && decide (d.stream < st) && followB (ps.take i) d) && sentFrom f st ps l (i + 1)
theorem sent_drop {f : Nat → Int} {st : Int} {ps : List Dat} {k : Nat} {d : Dat} (h : ps[k]? = some d) : sentFrom f st ps (ps.drop k) k = ((datB d && (d.tsn == f k) && decide (d.stream < st) && followB (ps.take k) d) && sentFrom f st ps (ps.drop (k + 1)) (k + 1)) := by
  rw [List.drop_eq_getElem_cons (List.getElem?_eq_some_iff.1 h).1, (List.getElem?_eq_some_iff.1 h).2]
  rfl
theorem sent_end {f : Nat → Int} {st : Int} {ps : List Dat} {k : Nat} (h : ps.length ≤ k) : sentFrom f st ps (ps.drop k) k = true := by rw [List.drop_eq_nil_of_le h]; rfl
def headB (tag st fi ac : Int) (n : Nat) : Bool := decide (1 ≤ tag ∧ tag ≤ 4294967295) && decide (1 ≤ st ∧ st ≤ 4) && okB fi && decide (n ≤ 12) && decide (0 ≤ ac ∧ ac ≤ n)
def sideB (tag st fi ac : Int) (ps : List Dat) : Bool :=
  if tag = 0 then decide (st = 0) && decide (fi = 0) && decide (ps.length = 0) && decide (ac = 0) else headB tag st fi ac ps.length && sentFrom (fun i => sadd fi i) st ps ps 0
theorem sent_congr {f g : Nat → Int} {st : Int} {ps : List Dat} : ∀ (l : List Dat) (i : Nat), (∀ j, f j = g j) → sentFrom f st ps l i = sentFrom g st ps l i
  | [], _, _ => rfl
  | d :: l, i, h => by
    simp only [sentFrom]
    rw [sent_congr l (i + 1) h, h i]
theorem side_eq {tag st fi ac : Int} {ps : List Dat} (ht : ¬ tag = 0) : sideB tag st fi ac ps = (headB tag st fi ac ps.length && sentFrom (fun i => l3v fi i) st ps ps 0) := by
  unfold sideB
  rw [if_neg ht]
  by_cases h : okB fi = true
  · rw [sent_congr ps 0 (fun j => (by unfold l3v; rw [if_pos h] : sadd fi (j : Int) = l3v fi j))]
  · have h : okB fi = false := by simpa using h
    unfold headB
    rw [h]
    simp
set_option maxHeartbeats 6400000 in
set_option maxRecDepth 100000 in
theorem iside_valid (tag st fi ac : Int) (A : Option Addr) (m c : Nat) (ps : List Dat) {v : Bool} (hv : sideB tag st fi ac ps = v) (w : World) (hp : Sl w w.heap.size A (dats ps)) (hm : ps.length = m) (hmd : m ≤ c) (hd2 : c ≤ 9223372036854775807) (ht : Dats ps) :
    Calls Try.prog 53 #[.agg #[.int .i64 tag, .int .i64 st, .int .i64 fi, .slice A m c, .int .i64 ac]] w fun e w' => e = .returned (.bool v) ∧ Below w.heap.size w w' := by
  have HP := Lib.hid hp; have HM := Lib.hid hm; have HT := Lib.hid ht; have HV := Lib.hid hv; clear hp hm ht hv
  by_cases ht0 : tag = 0
  · subst ht0
    have HE := Lib.hid (by rw [← HV.out]; unfold sideB; rw [if_pos rfl, HM.out] : v = (decide (st = 0) && decide (fi = 0) && decide (m = 0) && decide (ac = 0)))
    clear HV
    by_cases hh : st = 0
    · subst hh
      by_cases hh : fi = 0
      · subst hh
        by_cases hh : m = 0
        · subst hh
          by_cases hh : ac = 0
          · subst hh
            go_enter Try.func53, Try.ntmps53
            go_wp2
            go_ret
            exact ⟨ret_bool (by rw [HE.out]; rfl), by go_grown⟩
          · have en : (ac == 0) = false := by simp; omega
            go_enter Try.func53, Try.ntmps53
            go_wp2
            go_ret
            exact ⟨ret_bool (by rw [HE.out, decide_eq_false hh]; simp), by go_grown⟩
        · have en : ((m : Int) == 0) = false := by simp; omega
          go_enter Try.func53, Try.ntmps53
          go_wp2
          go_ret
          exact ⟨ret_bool (by rw [HE.out, decide_eq_false hh]; simp), by go_grown⟩
      · have en : (fi == 0) = false := by simp; omega
        go_enter Try.func53, Try.ntmps53
        go_wp2
        go_ret
        exact ⟨ret_bool (by rw [HE.out, decide_eq_false hh]; simp), by go_grown⟩
    · have en : (st == 0) = false := by simp; omega
      go_enter Try.func53, Try.ntmps53
      go_wp2
      go_ret
      exact ⟨ret_bool (by rw [HE.out, decide_eq_false hh]; simp), by go_grown⟩
  have en0 : (tag == 0) = false := by simpa using ht0
  have HE := Lib.hid (by rw [← HV.out]; unfold sideB; rw [if_neg ht0, HM.out] : v = (headB tag st fi ac m && sentFrom (fun i => sadd fi i) st ps ps 0))
  clear HV
  by_cases hb0 : tag < 1
  · have hb := Lib.hid (by unfold headB; rw [decide_eq_false (show ¬ (1 ≤ tag ∧ tag ≤ 4294967295) by omega)]; simp : headB tag st fi ac m = false)
    have HR := Lib.hid (by rw [HE.out, hb.out]; rfl : v = false)
    clear HE hb
    go_enter Try.func53, Try.ntmps53
    go_wp2_with (go_at_call 60; refine (ok_any _ _).mono ?_; rintro e w' ⟨rfl, rfl⟩)
    go_ret
    exact ⟨ret_bool HR.out.symm, by go_grown⟩
  by_cases hb1 : 4294967295 < tag
  · have hb := Lib.hid (by unfold headB; rw [decide_eq_false (show ¬ (1 ≤ tag ∧ tag ≤ 4294967295) by omega)]; simp : headB tag st fi ac m = false)
    have HR := Lib.hid (by rw [HE.out, hb.out]; rfl : v = false)
    clear HE hb
    go_enter Try.func53, Try.ntmps53
    go_wp2_with (go_at_call 60; refine (ok_any _ _).mono ?_; rintro e w' ⟨rfl, rfl⟩)
    go_ret
    exact ⟨ret_bool HR.out.symm, by go_grown⟩
  by_cases hb2 : st < 1
  · have hb := Lib.hid (by unfold headB; rw [decide_eq_false (show ¬ (1 ≤ st ∧ st ≤ 4) by omega)]; simp : headB tag st fi ac m = false)
    have HR := Lib.hid (by rw [HE.out, hb.out]; rfl : v = false)
    clear HE hb
    go_enter Try.func53, Try.ntmps53
    go_wp2_with (go_at_call 60; refine (ok_any _ _).mono ?_; rintro e w' ⟨rfl, rfl⟩)
    go_ret
    exact ⟨ret_bool HR.out.symm, by go_grown⟩
  by_cases hb3 : 4 < st
  · have hb := Lib.hid (by unfold headB; rw [decide_eq_false (show ¬ (1 ≤ st ∧ st ≤ 4) by omega)]; simp : headB tag st fi ac m = false)
    have HR := Lib.hid (by rw [HE.out, hb.out]; rfl : v = false)
    clear HE hb
    go_enter Try.func53, Try.ntmps53
    go_wp2_with (go_at_call 60; refine (ok_any _ _).mono ?_; rintro e w' ⟨rfl, rfl⟩)
    go_ret
    exact ⟨ret_bool HR.out.symm, by go_grown⟩
  by_cases hok : okB fi = false
  · have hb := Lib.hid (by unfold headB; rw [hok]; simp : headB tag st fi ac m = false)
    have HR := Lib.hid (by rw [HE.out, hb.out]; rfl : v = false)
    clear HE hb
    go_enter Try.func53, Try.ntmps53
    go_wp2_with (go_at_call 60; refine (ok_any _ _).mono ?_; rintro e w' ⟨rfl, rfl⟩)
    go_ret
    exact ⟨ret_bool HR.out.symm, by go_grown⟩
  by_cases hb5 : 12 < m
  · have hb := Lib.hid (by unfold headB; rw [decide_eq_false (show ¬ m ≤ 12 by omega)]; simp : headB tag st fi ac m = false)
    have HR := Lib.hid (by rw [HE.out, hb.out]; rfl : v = false)
    clear HE hb
    go_enter Try.func53, Try.ntmps53
    go_wp2_with (go_at_call 60; refine (ok_any _ _).mono ?_; rintro e w' ⟨rfl, rfl⟩)
    go_ret
    exact ⟨ret_bool HR.out.symm, by go_grown⟩
  by_cases hb6 : ac < 0
  · have hb := Lib.hid (by unfold headB; rw [decide_eq_false (show ¬ (0 ≤ ac ∧ ac ≤ m) by omega)]; simp : headB tag st fi ac m = false)
    have HR := Lib.hid (by rw [HE.out, hb.out]; rfl : v = false)
    clear HE hb
    go_enter Try.func53, Try.ntmps53
    go_wp2_with (go_at_call 60; refine (ok_any _ _).mono ?_; rintro e w' ⟨rfl, rfl⟩)
    go_ret
    exact ⟨ret_bool HR.out.symm, by go_grown⟩
  by_cases hb7 : (m : Int) < ac
  · have hb := Lib.hid (by unfold headB; rw [decide_eq_false (show ¬ (0 ≤ ac ∧ ac ≤ m) by omega)]; simp : headB tag st fi ac m = false)
    have HR := Lib.hid (by rw [HE.out, hb.out]; rfl : v = false)
    clear HE hb
    go_enter Try.func53, Try.ntmps53
    go_wp2_with (go_at_call 60; refine (ok_any _ _).mono ?_; rintro e w' ⟨rfl, rfl⟩)
    go_ret
    exact ⟨ret_bool HR.out.symm, by go_grown⟩
  have hok : okB fi = true := by simpa using hok
  have HE2 := Lib.hid (by rw [HE.out]; unfold headB; rw [hok, decide_eq_true (show 1 ≤ tag ∧ tag ≤ 4294967295 by omega), decide_eq_true (show 1 ≤ st ∧ st ≤ 4 by omega), decide_eq_true (show m ≤ 12 by omega), decide_eq_true (show 0 ≤ ac ∧ ac ≤ m by omega)]; simp : v = sentFrom (fun i => sadd fi i) st ps ps 0)
  clear HE
  have HE := HE2
  clear HE2
  go_enter Try.func53, Try.ntmps53
  go_wp2_with (go_at_call 60; refine (ok_any _ _).mono ?_; rintro e w' ⟨rfl, rfl⟩)
  have X0 := Lib.hid (Blk.new w #[.int .i64 tag, .int .i64 st, .int .i64 fi, .slice A m c, .int .i64 ac] 55)
  have B0 := Lib.hid ((Below.refl w.heap.size w).alloc (Nat.le_refl _) (.cells #[.int .i64 tag, .int .i64 st, .int .i64 fi, .slice A m c, .int .i64 ac] 55))
  go_loopw [73] (fun i wr => ∃ k : Nat, k ≤ m ∧ i = .int .i64 k ∧ Hid (sentFrom (fun i => sadd fi i) st ps ps 0 = sentFrom (fun i => sadd fi i) st ps (ps.drop k) k) ∧ Blk wr w.heap.size #[.int .i64 tag, .int .i64 st, .int .i64 fi, .slice A m c, .int .i64 ac] 55 ∧ Below w.heap.size w wr) (fun i _ => m - (intOf i).toNat)
  case atStart => exact ⟨0, by omega, rfl, Lib.hid rfl, X0.out, B0.out⟩
  case round =>
    obtain ⟨k, hk, rfl, ha, hx, hb⟩ := hrel
    have B := Lib.hid hb
    have X := Lib.hid hx
    clear hb hx
    by_cases hlt : k < m
    · obtain ⟨dd, hd⟩ := fget_of_lt (xs := ps) (k := k) (by rw [HM.out]; exact hlt)
      obtain ⟨b, off, rfl, hbl, ⟨e0, e1, e2, e3, e4, e5, e6⟩⟩ := dats_elem (HP.out.below B.out (Nat.le_refl _)) hd
      have hts := (HT.out dd (List.mem_of_getElem? hd)).2.2.2
      have HA := Lib.hid (ha.out.trans (sent_drop hd))
      obtain ⟨g0, g1, g2, g3, g4, g5, g6⟩ := dd
      change g6.size ≤ 9223372036854775807 at hts
      change Hid (sentFrom (fun i => sadd fi i) st ps ps 0 = ((datB ⟨g0, g1, g2, g3, g4, g5, g6⟩ && (g0 == sadd fi k) && decide (g1 < st) && followB (ps.take k) ⟨g0, g1, g2, g3, g4, g5, g6⟩) && sentFrom (fun i => sadd fi i) st ps (ps.drop (k + 1)) (k + 1))) at HA
      obtain ⟨qq, hq⟩ : ∃ q, sadd fi k = q := ⟨_, rfl⟩
      rw [hq] at HA
      obtain ⟨fv, hf⟩ : ∃ v, followB (ps.take k) ⟨g0, g1, g2, g3, g4, g5, g6⟩ = v := ⟨_, rfl⟩
      rw [hf] at HA
      change World.cell? _ _ = some (.int .i64 g0) at e0
      change World.cell? _ _ = some (.int .i64 g1) at e1
      change World.cell? _ _ = some (.int .i64 g2) at e2
      change World.cell? _ _ = some (.bool g3) at e3
      change World.cell? _ _ = some (.bool g4) at e4
      change World.cell? _ _ = some (.bool g5) at e5
      change World.cell? _ _ = some (.string g6) at e6
      clear ha hd
      have x0 := X.out.get 0 rfl
      have x1 := X.out.get 1 rfl
      have x2 := X.out.get 2 rfl
      have x3 := X.out.get 3 rfl
      have x4 := X.out.get 4 rfl
      have hk0 : (0 : Int) ≤ (k : Int) := by omega
      have hk1 : (k : Int) < (m : Int) := by omega
      have hkd : (k : Int) ≤ (c : Int) := by omega
      have HD := Lib.hid (Blk.new wr #[.int .i64 g0, .int .i64 g1, .int .i64 g2, .bool g3, .bool g4, .bool g5, .string g6] 45)
      have XA := Lib.hid (X.out.alloc (.cells #[.int .i64 g0, .int .i64 g1, .int .i64 g2, .bool g3, .bool g4, .bool g5, .string g6] 45))
      have BA := Lib.hid (B.out.alloc B.out.size (.cells #[.int .i64 g0, .int .i64 g1, .int .i64 g2, .bool g3, .bool g4, .bool g5, .string g6] 45))
      have q0 := HD.out.get 0 rfl
      have q1 := HD.out.get 1 rfl
      have q2 := HD.out.get 2 rfl
      have q3 := HD.out.get 3 rfl
      have q4 := HD.out.get 4 rfl
      have q5 := HD.out.get 5 rfl
      have q6 := HD.out.get 6 rfl
      have y0 := XA.out.get 0 rfl
      have y1 := XA.out.get 1 rfl
      have y2 := XA.out.get 2 rfl
      have y3 := XA.out.get 3 rfl
      have y4 := XA.out.get 4 rfl
      have hl1 := XA.out.lt
      have hl2 := HD.out.lt
      by_cases h1 : datB ⟨g0, g1, g2, g3, g4, g5, g6⟩ = true
      · by_cases h2 : g0 = qq
        · by_cases h3 : g1 < st
          · subst h2
            have e3 : decide (st ≤ g1) = false := decide_eq_false (by omega)
            cases fv with
            | true =>
              have HA2 := Lib.hid (HA.out.trans (by rw [h1, decide_eq_true h3]; simp) : sentFrom (fun i => sadd fi i) st ps ps 0 = sentFrom (fun i => sadd fi i) st ps (ps.drop (k + 1)) (k + 1))
              clear HA
              go_wp2
              refine wp_region_held_drew (S := fun w' => w'.cell? ⟨w.heap.size, 0, none⟩ = some (.int .i64 tag) ∧ w'.cell? ⟨w.heap.size, 1, none⟩ = some (.int .i64 st) ∧ w'.cell? ⟨w.heap.size, 2, none⟩ = some (.int .i64 fi) ∧ w'.cell? ⟨w.heap.size, 3, none⟩ = some (.slice (some ⟨b, off, none⟩) m c) ∧ w'.cell? ⟨w.heap.size, 4, none⟩ = some (.int .i64 ac) ∧ w'.cell? ⟨wr.heap.size, 0, none⟩ = some (.int .i64 g0) ∧ w'.cell? ⟨wr.heap.size, 1, none⟩ = some (.int .i64 g1) ∧ w'.cell? ⟨wr.heap.size, 2, none⟩ = some (.int .i64 g2) ∧ w'.cell? ⟨wr.heap.size, 3, none⟩ = some (.bool g3) ∧ w'.cell? ⟨wr.heap.size, 4, none⟩ = some (.bool g4) ∧ w'.cell? ⟨wr.heap.size, 5, none⟩ = some (.bool g5) ∧ w'.cell? ⟨wr.heap.size, 6, none⟩ = some (.string g6)) (by kernel_rfl) (by first | exact ⟨y0, y1, y2, y3, y4, q0, q1, q2, q3, q4, q5, q6⟩ | exact ⟨z0, z1, z2, z3, z4, r0, r1, r2, r3, r4, r5, r6⟩ | exact ⟨s0, s1, s2, s3, s4, v0, v1, v2, v3, v4, v5, v6⟩ | go_keep) (fun hHeld => ?_)
              refine wpAnyH_take (i := 0) (oi := ⟨some 78, _, _, _, _, _⟩) (v := ?_) rfl (by kernel_rfl) (by kernel_rfl) (by kernel_rfl) (fun _ _ _ h => h) (Or.inl ⟨by kernel_rfl, ?y1⟩) (by assumption) ?_
              case y1 => (intro w hSw; (try dsimp only at hSw); first | (go_simp; done) | (go_simp; with_reducible rfl))
              simp only [Act.put, List.setIfInBounds_toArray, List.set_cons_zero, List.set_cons_succ]
              refine wpAnyH_ready (rs := [1]) (by kernel_rfl) (by simp) ?_
              refine AllReadyH.cons (o := ⟨some 79, _, _, _, _, _⟩) rfl (fun K hK => ?_) AllReadyH.nil
              go_simp
              (go_at_call 43; (with_reducible refine (idata_eq h1 hts _).mono ?_); rintro e w5 ⟨rfl, b5⟩; have X5 := Lib.hid (XA.out.drew.below b5 XA.out.drew.lt); have D5 := Lib.hid (HD.out.drew.below b5 HD.out.drew.lt); have B5 := Lib.hid (bstep BA.out.drew b5 BA.out.size); have z0 := X5.out.get 0 rfl; have z1 := X5.out.get 1 rfl; have z2 := X5.out.get 2 rfl; have z3 := X5.out.get 3 rfl; have z4 := X5.out.get 4 rfl; have r0 := D5.out.get 0 rfl; have r1 := D5.out.get 1 rfl; have r2 := D5.out.get 2 rfl; have r3 := D5.out.get 3 rfl; have r4 := D5.out.get 4 rfl; have r5 := D5.out.get 5 rfl; have r6 := D5.out.get 6 rfl; clear b5)
              first | go_wp2_with fail | skip
              refine hK.out _ _ (by first | exact ⟨y0, y1, y2, y3, y4, q0, q1, q2, q3, q4, q5, q6⟩ | exact ⟨z0, z1, z2, z3, z4, r0, r1, r2, r3, r4, r5, r6⟩ | exact ⟨s0, s1, s2, s3, s4, v0, v1, v2, v3, v4, v5, v6⟩ | go_keep) (fun hHeld => ?_)
              clear hK K
              try simp only [Act.put, List.setIfInBounds_toArray, List.set_cons_zero, List.set_cons_succ]
              refine wpAnyH_take (i := 2) (oi := ⟨some 80, _, _, _, _, _⟩) (v := ?_) rfl (by kernel_rfl) (by kernel_rfl) (by kernel_rfl) (fun _ _ _ h => h) (Or.inl ⟨by kernel_rfl, ?y2⟩) (by assumption) ?_
              case y2 => (intro w hSw; (try dsimp only at hSw); first | (go_simp; done) | (go_simp; with_reducible rfl))
              simp only [Act.put, List.setIfInBounds_toArray, List.set_cons_zero, List.set_cons_succ]
              refine wpAnyH_take (i := 3) (oi := ⟨some 81, _, _, _, _, _⟩) (v := ?_) rfl (by kernel_rfl) (by kernel_rfl) (by kernel_rfl) (fun _ _ _ h => h) (Or.inl ⟨by kernel_rfl, ?y3⟩) (by assumption) ?_
              case y3 => (intro w hSw; (try dsimp only at hSw); first | (go_simp; done) | (go_simp; with_reducible rfl))
              simp only [Act.put, List.setIfInBounds_toArray, List.set_cons_zero, List.set_cons_succ]
              refine wpAnyH_take (i := 4) (oi := ⟨some 82, _, _, _, _, _⟩) (v := ?_) rfl (by kernel_rfl) (by kernel_rfl) (by kernel_rfl) (fun _ _ _ h => h) (Or.inl ⟨by kernel_rfl, ?y4⟩) (by assumption) ?_
              case y4 => (intro w hSw; (try dsimp only at hSw); first | (go_simp; done) | (go_simp; with_reducible rfl))
              simp only [Act.put, List.setIfInBounds_toArray, List.set_cons_zero, List.set_cons_succ]
              refine wpAnyH_take (i := 5) (oi := ⟨some 83, _, _, _, _, _⟩) (v := ?_) rfl (by kernel_rfl) (by kernel_rfl) (by kernel_rfl) (fun _ _ _ h => h) (Or.inl ⟨by kernel_rfl, ?y5⟩) (by assumption) ?_
              case y5 => (intro w hSw; (try dsimp only at hSw); first | (go_simp; done) | (go_simp; with_reducible rfl))
              simp only [Act.put, List.setIfInBounds_toArray, List.set_cons_zero, List.set_cons_succ]
              refine wpAnyH_take (i := 6) (oi := ⟨some 84, _, _, _, _, _⟩) (v := ?_) rfl (by kernel_rfl) (by kernel_rfl) (by kernel_rfl) (fun _ _ _ h => h) (Or.inl ⟨by kernel_rfl, ?y6⟩) (by assumption) ?_
              case y6 => (intro w hSw; (try dsimp only at hSw); first | (go_simp; done) | (go_simp; with_reducible rfl))
              simp only [Act.put, List.setIfInBounds_toArray, List.set_cons_zero, List.set_cons_succ]
              refine wpAnyH_take (i := 7) (oi := ⟨some 85, _, _, _, _, _⟩) (v := ?_) rfl (by kernel_rfl) (by kernel_rfl) (by kernel_rfl) (fun _ _ _ h => h) (Or.inl ⟨by kernel_rfl, ?y7⟩) (by assumption) ?_
              case y7 => (intro w hSw; (try dsimp only at hSw); first | (go_simp; done) | (go_simp; with_reducible rfl))
              simp only [Act.put, List.setIfInBounds_toArray, List.set_cons_zero, List.set_cons_succ]
              refine wpAnyH_take (i := 8) (oi := ⟨some 86, _, _, _, _, _⟩) (v := ?_) rfl (by kernel_rfl) (by kernel_rfl) (by kernel_rfl) (fun _ _ _ h => h) (Or.inl ⟨by kernel_rfl, ?y8⟩) (by assumption) ?_
              case y8 => (intro w hSw; (try dsimp only at hSw); first | (go_simp; done) | (go_simp; with_reducible rfl))
              simp only [Act.put, List.setIfInBounds_toArray, List.set_cons_zero, List.set_cons_succ]
              refine wpAnyH_ready (rs := [9]) (by kernel_rfl) (by simp) ?_
              refine AllReadyH.cons (o := ⟨some 87, _, _, _, _, _⟩) rfl (fun K hK => ?_) AllReadyH.nil
              go_simp
              (go_at_call 46; (with_reducible refine (iadd_eq hq _).mono ?_); rintro e w6 ⟨rfl, rfl⟩)
              first | go_wp2_with fail | skip
              refine hK.out _ _ (by first | exact ⟨y0, y1, y2, y3, y4, q0, q1, q2, q3, q4, q5, q6⟩ | exact ⟨z0, z1, z2, z3, z4, r0, r1, r2, r3, r4, r5, r6⟩ | exact ⟨s0, s1, s2, s3, s4, v0, v1, v2, v3, v4, v5, v6⟩ | go_keep) (fun hHeld => ?_)
              clear hK K
              try simp only [Act.put, List.setIfInBounds_toArray, List.set_cons_zero, List.set_cons_succ]
              refine wpAnyH_take (i := 10) (oi := ⟨some 88, _, _, _, _, _⟩) (v := ?_) rfl (by kernel_rfl) (by kernel_rfl) (by kernel_rfl) (fun _ _ _ h => h) (Or.inl ⟨by kernel_rfl, ?y9⟩) (by assumption) ?_
              case y9 => (intro w hSw; (try dsimp only at hSw); first | (go_simp; done) | (go_simp; with_reducible rfl))
              simp only [Act.put, List.setIfInBounds_toArray, List.set_cons_zero, List.set_cons_succ]
              refine wpAnyH_take (i := 11) (oi := ⟨some 89, _, _, _, _, _⟩) (v := ?_) rfl (by kernel_rfl) (by kernel_rfl) (by kernel_rfl) (fun _ _ _ h => h) (Or.inl ⟨by kernel_rfl, ?y10⟩) (by assumption) ?_
              case y10 => (intro w hSw; (try dsimp only at hSw); first | (go_simp; done) | (go_simp; with_reducible rfl))
              simp only [Act.put, List.setIfInBounds_toArray, List.set_cons_zero, List.set_cons_succ]
              refine wpAnyH_take (i := 12) (oi := ⟨some 90, _, _, _, _, _⟩) (v := ?_) rfl (by kernel_rfl) (by kernel_rfl) (by kernel_rfl) (fun _ _ _ h => h) (Or.inl ⟨by kernel_rfl, ?y11⟩) (by assumption) ?_
              case y11 => (intro w hSw; (try dsimp only at hSw); first | (go_simp; done) | (go_simp; with_reducible rfl))
              simp only [Act.put, List.setIfInBounds_toArray, List.set_cons_zero, List.set_cons_succ]
              refine wpAnyH_take (i := 13) (oi := ⟨some 91, _, _, _, _, _⟩) (v := ?_) rfl (by kernel_rfl) (by kernel_rfl) (by kernel_rfl) (fun _ _ _ h => h) (Or.inl ⟨by kernel_rfl, ?y12⟩) (by assumption) ?_
              case y12 => (intro w hSw; (try dsimp only at hSw); first | (go_simp; done) | (go_simp; with_reducible rfl))
              simp only [Act.put, List.setIfInBounds_toArray, List.set_cons_zero, List.set_cons_succ]
              refine wpAnyH_take (i := 14) (oi := ⟨some 92, _, _, _, _, _⟩) (v := ?_) rfl (by kernel_rfl) (by kernel_rfl) (by kernel_rfl) (fun _ _ _ h => h) (Or.inl ⟨by kernel_rfl, ?y13⟩) (by assumption) ?_
              case y13 => (intro w hSw; (try dsimp only at hSw); first | (go_simp; done) | (go_simp; with_reducible rfl))
              simp only [Act.put, List.setIfInBounds_toArray, List.set_cons_zero, List.set_cons_succ]
              refine wpAnyH_take (i := 15) (oi := ⟨some 93, _, _, _, _, _⟩) (v := ?_) rfl (by kernel_rfl) (by kernel_rfl) (by kernel_rfl) (fun _ _ _ h => h) (Or.inl ⟨by kernel_rfl, ?y14⟩) (by assumption) ?_
              case y14 => (intro w hSw; (try dsimp only at hSw); first | (go_simp; done) | (go_simp; with_reducible rfl))
              simp only [Act.put, List.setIfInBounds_toArray, List.set_cons_zero, List.set_cons_succ]
              refine wpAnyH_take (i := 16) (oi := ⟨some 94, _, _, _, _, _⟩) (v := ?_) rfl (by kernel_rfl) (by kernel_rfl) (by kernel_rfl) (fun _ _ _ h => h) (Or.inl ⟨by kernel_rfl, ?y15⟩) (by assumption) ?_
              case y15 => (intro w hSw; (try dsimp only at hSw); first | (go_simp; done) | (go_simp; with_reducible rfl))
              simp only [Act.put, List.setIfInBounds_toArray, List.set_cons_zero, List.set_cons_succ]
              refine wpAnyH_take (i := 17) (oi := ⟨some 95, _, _, _, _, _⟩) (v := ?_) rfl (by kernel_rfl) (by kernel_rfl) (by kernel_rfl) (fun _ _ _ h => h) (Or.inl ⟨by kernel_rfl, ?y16⟩) (by assumption) ?_
              case y16 => (intro w hSw; (try dsimp only at hSw); first | (go_simp; done) | (go_simp; with_reducible rfl))
              simp only [Act.put, List.setIfInBounds_toArray, List.set_cons_zero, List.set_cons_succ]
              refine wpAnyH_take (i := 18) (oi := ⟨some 96, _, _, _, _, _⟩) (v := ?_) rfl (by kernel_rfl) (by kernel_rfl) (by kernel_rfl) (fun _ _ _ h => h) (Or.inl ⟨by kernel_rfl, ?y17⟩) (by assumption) ?_
              case y17 => (intro w hSw; (try dsimp only at hSw); first | (go_simp; done) | (go_simp; with_reducible rfl))
              simp only [Act.put, List.setIfInBounds_toArray, List.set_cons_zero, List.set_cons_succ]
              refine wpAnyH_take (i := 19) (oi := ⟨some 97, _, _, _, _, _⟩) (v := ?_) rfl (by kernel_rfl) (by kernel_rfl) (by kernel_rfl) (fun _ _ _ h => h) (Or.inl ⟨by kernel_rfl, ?y18⟩) (by assumption) ?_
              case y18 => (intro w hSw; (try dsimp only at hSw); first | (go_simp; done) | (go_simp; with_reducible rfl))
              simp only [Act.put, List.setIfInBounds_toArray, List.set_cons_zero, List.set_cons_succ]
              refine wpAnyH_take (i := 20) (oi := ⟨some 98, _, _, _, _, _⟩) (v := ?_) rfl (by kernel_rfl) (by kernel_rfl) (by kernel_rfl) (fun _ _ _ h => h) (Or.inl ⟨by kernel_rfl, ?y19⟩) (by assumption) ?_
              case y19 => (intro w hSw; (try dsimp only at hSw); first | (go_simp; done) | (go_simp; with_reducible rfl))
              simp only [Act.put, List.setIfInBounds_toArray, List.set_cons_zero, List.set_cons_succ]
              refine wpAnyH_take (i := 21) (oi := ⟨some 99, _, _, _, _, _⟩) (v := ?_) rfl (by kernel_rfl) (by kernel_rfl) (by kernel_rfl) (fun _ _ _ h => h) (Or.inl ⟨by kernel_rfl, ?y20⟩) (by assumption) ?_
              case y20 => (intro w hSw; (try dsimp only at hSw); first | (go_simp; done) | (go_simp; with_reducible rfl))
              simp only [Act.put, List.setIfInBounds_toArray, List.set_cons_zero, List.set_cons_succ]
              refine wpAnyH_take (i := 22) (oi := ⟨some 100, _, _, _, _, _⟩) (v := ?_) rfl (by kernel_rfl) (by kernel_rfl) (by kernel_rfl) (fun _ _ _ h => h) (Or.inl ⟨by kernel_rfl, ?y21⟩) (by assumption) ?_
              case y21 => (intro w hSw; (try dsimp only at hSw); first | (go_simp; done) | (go_simp; with_reducible rfl))
              simp only [Act.put, List.setIfInBounds_toArray, List.set_cons_zero, List.set_cons_succ]
              refine wpAnyH_take (i := 23) (oi := ⟨some 101, _, _, _, _, _⟩) (v := ?_) rfl (by kernel_rfl) (by kernel_rfl) (by kernel_rfl) (fun _ _ _ h => h) (Or.inl ⟨by kernel_rfl, ?y22⟩) (by assumption) ?_
              case y22 => (intro w hSw; (try dsimp only at hSw); first | (go_simp; done) | (go_simp; with_reducible rfl))
              simp only [Act.put, List.setIfInBounds_toArray, List.set_cons_zero, List.set_cons_succ]
              refine wpAnyH_take (i := 24) (oi := ⟨some 102, _, _, _, _, _⟩) (v := ?_) rfl (by kernel_rfl) (by kernel_rfl) (by kernel_rfl) (fun _ _ _ h => h) (Or.inl ⟨by kernel_rfl, ?y23⟩) (by assumption) ?_
              case y23 => (intro w hSw; (try dsimp only at hSw); first | (go_simp; done) | (go_simp; with_reducible rfl))
              simp only [Act.put, List.setIfInBounds_toArray, List.set_cons_zero, List.set_cons_succ]
              refine wpAnyH_ready (rs := [25]) (by kernel_rfl) (by simp) ?_
              refine AllReadyH.cons (o := ⟨some 103, _, _, _, _, _⟩) rfl (fun K hK => ?_) AllReadyH.nil
              go_simp
              (go_at_call 63; (with_reducible refine (imay_any _ _ _ _ hf _ ((HP.out.dat_take k).below B5.out (Nat.le_refl _) |>.more B5.out.size) (by rw [List.length_take, HM.out]; omega) (by omega)).mono ?_); rintro e w7 ⟨rfl, b7⟩; have X7 := Lib.hid (X5.out.below b7 X5.out.lt); have D7 := Lib.hid (D5.out.below b7 D5.out.lt); have B7 := Lib.hid (bstep B5.out b7 B5.out.size); have s0 := X7.out.get 0 rfl; have s1 := X7.out.get 1 rfl; have s2 := X7.out.get 2 rfl; have s3 := X7.out.get 3 rfl; have s4 := X7.out.get 4 rfl; have v0 := D7.out.get 0 rfl; have v1 := D7.out.get 1 rfl; have v2 := D7.out.get 2 rfl; have v3 := D7.out.get 3 rfl; have v4 := D7.out.get 4 rfl; have v5 := D7.out.get 5 rfl; have v6 := D7.out.get 6 rfl; clear b7)
              first | go_wp2_with fail | skip
              refine hK.out _ _ (by first | exact ⟨y0, y1, y2, y3, y4, q0, q1, q2, q3, q4, q5, q6⟩ | exact ⟨z0, z1, z2, z3, z4, r0, r1, r2, r3, r4, r5, r6⟩ | exact ⟨s0, s1, s2, s3, s4, v0, v1, v2, v3, v4, v5, v6⟩ | go_keep) (fun hHeld => ?_)
              clear hK K
              try simp only [Act.put, List.setIfInBounds_toArray, List.set_cons_zero, List.set_cons_succ]
              refine wpAnyH_take (i := 26) (oi := ⟨some 104, _, _, _, _, _⟩) (v := ?_) rfl (by kernel_rfl) (by kernel_rfl) (by kernel_rfl) (fun _ _ _ h => h) (Or.inl ⟨by kernel_rfl, ?y24⟩) (by assumption) ?_
              case y24 => (intro w hSw; (try dsimp only at hSw); first | (go_simp; done) | (go_simp; with_reducible rfl))
              simp only [Act.put, List.setIfInBounds_toArray, List.set_cons_zero, List.set_cons_succ]
              refine wpAnyH_take (i := 27) (oi := ⟨some 105, _, _, _, _, _⟩) (v := ?_) rfl (by kernel_rfl) (by kernel_rfl) (by kernel_rfl) (fun _ _ _ h => h) (Or.inl ⟨by kernel_rfl, ?y25⟩) (by assumption) ?_
              case y25 => (intro w hSw; (try dsimp only at hSw); first | (go_simp; done) | (go_simp; with_reducible rfl))
              simp only [Act.put, List.setIfInBounds_toArray, List.set_cons_zero, List.set_cons_succ]
              refine wpAnyH_done (by kernel_rfl) ?_ _
              go_wp2
              go_roundw
              case rel => exact ⟨k + 1, by omega, by go_num, HA2, X7.out, B7.out⟩
              case measure => simp [intOf]; omega
            | false =>
              have HA2 := Lib.hid (HA.out.trans (by simp) : sentFrom (fun i => sadd fi i) st ps ps 0 = false)
              clear HA
              go_wp2
              refine wp_region_held_drew (S := fun w' => w'.cell? ⟨w.heap.size, 0, none⟩ = some (.int .i64 tag) ∧ w'.cell? ⟨w.heap.size, 1, none⟩ = some (.int .i64 st) ∧ w'.cell? ⟨w.heap.size, 2, none⟩ = some (.int .i64 fi) ∧ w'.cell? ⟨w.heap.size, 3, none⟩ = some (.slice (some ⟨b, off, none⟩) m c) ∧ w'.cell? ⟨w.heap.size, 4, none⟩ = some (.int .i64 ac) ∧ w'.cell? ⟨wr.heap.size, 0, none⟩ = some (.int .i64 g0) ∧ w'.cell? ⟨wr.heap.size, 1, none⟩ = some (.int .i64 g1) ∧ w'.cell? ⟨wr.heap.size, 2, none⟩ = some (.int .i64 g2) ∧ w'.cell? ⟨wr.heap.size, 3, none⟩ = some (.bool g3) ∧ w'.cell? ⟨wr.heap.size, 4, none⟩ = some (.bool g4) ∧ w'.cell? ⟨wr.heap.size, 5, none⟩ = some (.bool g5) ∧ w'.cell? ⟨wr.heap.size, 6, none⟩ = some (.string g6)) (by kernel_rfl) (by first | exact ⟨y0, y1, y2, y3, y4, q0, q1, q2, q3, q4, q5, q6⟩ | exact ⟨z0, z1, z2, z3, z4, r0, r1, r2, r3, r4, r5, r6⟩ | exact ⟨s0, s1, s2, s3, s4, v0, v1, v2, v3, v4, v5, v6⟩ | go_keep) (fun hHeld => ?_)
              refine wpAnyH_take (i := 0) (oi := ⟨some 78, _, _, _, _, _⟩) (v := ?_) rfl (by kernel_rfl) (by kernel_rfl) (by kernel_rfl) (fun _ _ _ h => h) (Or.inl ⟨by kernel_rfl, ?y26⟩) (by assumption) ?_
              case y26 => (intro w hSw; (try dsimp only at hSw); first | (go_simp; done) | (go_simp; with_reducible rfl))
              simp only [Act.put, List.setIfInBounds_toArray, List.set_cons_zero, List.set_cons_succ]
              refine wpAnyH_ready (rs := [1]) (by kernel_rfl) (by simp) ?_
              refine AllReadyH.cons (o := ⟨some 79, _, _, _, _, _⟩) rfl (fun K hK => ?_) AllReadyH.nil
              go_simp
              (go_at_call 43; (with_reducible refine (idata_eq h1 hts _).mono ?_); rintro e w5 ⟨rfl, b5⟩; have X5 := Lib.hid (XA.out.drew.below b5 XA.out.drew.lt); have D5 := Lib.hid (HD.out.drew.below b5 HD.out.drew.lt); have B5 := Lib.hid (bstep BA.out.drew b5 BA.out.size); have z0 := X5.out.get 0 rfl; have z1 := X5.out.get 1 rfl; have z2 := X5.out.get 2 rfl; have z3 := X5.out.get 3 rfl; have z4 := X5.out.get 4 rfl; have r0 := D5.out.get 0 rfl; have r1 := D5.out.get 1 rfl; have r2 := D5.out.get 2 rfl; have r3 := D5.out.get 3 rfl; have r4 := D5.out.get 4 rfl; have r5 := D5.out.get 5 rfl; have r6 := D5.out.get 6 rfl; clear b5)
              first | go_wp2_with fail | skip
              refine hK.out _ _ (by first | exact ⟨y0, y1, y2, y3, y4, q0, q1, q2, q3, q4, q5, q6⟩ | exact ⟨z0, z1, z2, z3, z4, r0, r1, r2, r3, r4, r5, r6⟩ | exact ⟨s0, s1, s2, s3, s4, v0, v1, v2, v3, v4, v5, v6⟩ | go_keep) (fun hHeld => ?_)
              clear hK K
              try simp only [Act.put, List.setIfInBounds_toArray, List.set_cons_zero, List.set_cons_succ]
              refine wpAnyH_take (i := 2) (oi := ⟨some 80, _, _, _, _, _⟩) (v := ?_) rfl (by kernel_rfl) (by kernel_rfl) (by kernel_rfl) (fun _ _ _ h => h) (Or.inl ⟨by kernel_rfl, ?y27⟩) (by assumption) ?_
              case y27 => (intro w hSw; (try dsimp only at hSw); first | (go_simp; done) | (go_simp; with_reducible rfl))
              simp only [Act.put, List.setIfInBounds_toArray, List.set_cons_zero, List.set_cons_succ]
              refine wpAnyH_take (i := 3) (oi := ⟨some 81, _, _, _, _, _⟩) (v := ?_) rfl (by kernel_rfl) (by kernel_rfl) (by kernel_rfl) (fun _ _ _ h => h) (Or.inl ⟨by kernel_rfl, ?y28⟩) (by assumption) ?_
              case y28 => (intro w hSw; (try dsimp only at hSw); first | (go_simp; done) | (go_simp; with_reducible rfl))
              simp only [Act.put, List.setIfInBounds_toArray, List.set_cons_zero, List.set_cons_succ]
              refine wpAnyH_take (i := 4) (oi := ⟨some 82, _, _, _, _, _⟩) (v := ?_) rfl (by kernel_rfl) (by kernel_rfl) (by kernel_rfl) (fun _ _ _ h => h) (Or.inl ⟨by kernel_rfl, ?y29⟩) (by assumption) ?_
              case y29 => (intro w hSw; (try dsimp only at hSw); first | (go_simp; done) | (go_simp; with_reducible rfl))
              simp only [Act.put, List.setIfInBounds_toArray, List.set_cons_zero, List.set_cons_succ]
              refine wpAnyH_take (i := 5) (oi := ⟨some 83, _, _, _, _, _⟩) (v := ?_) rfl (by kernel_rfl) (by kernel_rfl) (by kernel_rfl) (fun _ _ _ h => h) (Or.inl ⟨by kernel_rfl, ?y30⟩) (by assumption) ?_
              case y30 => (intro w hSw; (try dsimp only at hSw); first | (go_simp; done) | (go_simp; with_reducible rfl))
              simp only [Act.put, List.setIfInBounds_toArray, List.set_cons_zero, List.set_cons_succ]
              refine wpAnyH_take (i := 6) (oi := ⟨some 84, _, _, _, _, _⟩) (v := ?_) rfl (by kernel_rfl) (by kernel_rfl) (by kernel_rfl) (fun _ _ _ h => h) (Or.inl ⟨by kernel_rfl, ?y31⟩) (by assumption) ?_
              case y31 => (intro w hSw; (try dsimp only at hSw); first | (go_simp; done) | (go_simp; with_reducible rfl))
              simp only [Act.put, List.setIfInBounds_toArray, List.set_cons_zero, List.set_cons_succ]
              refine wpAnyH_take (i := 7) (oi := ⟨some 85, _, _, _, _, _⟩) (v := ?_) rfl (by kernel_rfl) (by kernel_rfl) (by kernel_rfl) (fun _ _ _ h => h) (Or.inl ⟨by kernel_rfl, ?y32⟩) (by assumption) ?_
              case y32 => (intro w hSw; (try dsimp only at hSw); first | (go_simp; done) | (go_simp; with_reducible rfl))
              simp only [Act.put, List.setIfInBounds_toArray, List.set_cons_zero, List.set_cons_succ]
              refine wpAnyH_take (i := 8) (oi := ⟨some 86, _, _, _, _, _⟩) (v := ?_) rfl (by kernel_rfl) (by kernel_rfl) (by kernel_rfl) (fun _ _ _ h => h) (Or.inl ⟨by kernel_rfl, ?y33⟩) (by assumption) ?_
              case y33 => (intro w hSw; (try dsimp only at hSw); first | (go_simp; done) | (go_simp; with_reducible rfl))
              simp only [Act.put, List.setIfInBounds_toArray, List.set_cons_zero, List.set_cons_succ]
              refine wpAnyH_ready (rs := [9]) (by kernel_rfl) (by simp) ?_
              refine AllReadyH.cons (o := ⟨some 87, _, _, _, _, _⟩) rfl (fun K hK => ?_) AllReadyH.nil
              go_simp
              (go_at_call 46; (with_reducible refine (iadd_eq hq _).mono ?_); rintro e w6 ⟨rfl, rfl⟩)
              first | go_wp2_with fail | skip
              refine hK.out _ _ (by first | exact ⟨y0, y1, y2, y3, y4, q0, q1, q2, q3, q4, q5, q6⟩ | exact ⟨z0, z1, z2, z3, z4, r0, r1, r2, r3, r4, r5, r6⟩ | exact ⟨s0, s1, s2, s3, s4, v0, v1, v2, v3, v4, v5, v6⟩ | go_keep) (fun hHeld => ?_)
              clear hK K
              try simp only [Act.put, List.setIfInBounds_toArray, List.set_cons_zero, List.set_cons_succ]
              refine wpAnyH_take (i := 10) (oi := ⟨some 88, _, _, _, _, _⟩) (v := ?_) rfl (by kernel_rfl) (by kernel_rfl) (by kernel_rfl) (fun _ _ _ h => h) (Or.inl ⟨by kernel_rfl, ?y34⟩) (by assumption) ?_
              case y34 => (intro w hSw; (try dsimp only at hSw); first | (go_simp; done) | (go_simp; with_reducible rfl))
              simp only [Act.put, List.setIfInBounds_toArray, List.set_cons_zero, List.set_cons_succ]
              refine wpAnyH_take (i := 11) (oi := ⟨some 89, _, _, _, _, _⟩) (v := ?_) rfl (by kernel_rfl) (by kernel_rfl) (by kernel_rfl) (fun _ _ _ h => h) (Or.inl ⟨by kernel_rfl, ?y35⟩) (by assumption) ?_
              case y35 => (intro w hSw; (try dsimp only at hSw); first | (go_simp; done) | (go_simp; with_reducible rfl))
              simp only [Act.put, List.setIfInBounds_toArray, List.set_cons_zero, List.set_cons_succ]
              refine wpAnyH_take (i := 12) (oi := ⟨some 90, _, _, _, _, _⟩) (v := ?_) rfl (by kernel_rfl) (by kernel_rfl) (by kernel_rfl) (fun _ _ _ h => h) (Or.inl ⟨by kernel_rfl, ?y36⟩) (by assumption) ?_
              case y36 => (intro w hSw; (try dsimp only at hSw); first | (go_simp; done) | (go_simp; with_reducible rfl))
              simp only [Act.put, List.setIfInBounds_toArray, List.set_cons_zero, List.set_cons_succ]
              refine wpAnyH_take (i := 13) (oi := ⟨some 91, _, _, _, _, _⟩) (v := ?_) rfl (by kernel_rfl) (by kernel_rfl) (by kernel_rfl) (fun _ _ _ h => h) (Or.inl ⟨by kernel_rfl, ?y37⟩) (by assumption) ?_
              case y37 => (intro w hSw; (try dsimp only at hSw); first | (go_simp; done) | (go_simp; with_reducible rfl))
              simp only [Act.put, List.setIfInBounds_toArray, List.set_cons_zero, List.set_cons_succ]
              refine wpAnyH_take (i := 14) (oi := ⟨some 92, _, _, _, _, _⟩) (v := ?_) rfl (by kernel_rfl) (by kernel_rfl) (by kernel_rfl) (fun _ _ _ h => h) (Or.inl ⟨by kernel_rfl, ?y38⟩) (by assumption) ?_
              case y38 => (intro w hSw; (try dsimp only at hSw); first | (go_simp; done) | (go_simp; with_reducible rfl))
              simp only [Act.put, List.setIfInBounds_toArray, List.set_cons_zero, List.set_cons_succ]
              refine wpAnyH_take (i := 15) (oi := ⟨some 93, _, _, _, _, _⟩) (v := ?_) rfl (by kernel_rfl) (by kernel_rfl) (by kernel_rfl) (fun _ _ _ h => h) (Or.inl ⟨by kernel_rfl, ?y39⟩) (by assumption) ?_
              case y39 => (intro w hSw; (try dsimp only at hSw); first | (go_simp; done) | (go_simp; with_reducible rfl))
              simp only [Act.put, List.setIfInBounds_toArray, List.set_cons_zero, List.set_cons_succ]
              refine wpAnyH_take (i := 16) (oi := ⟨some 94, _, _, _, _, _⟩) (v := ?_) rfl (by kernel_rfl) (by kernel_rfl) (by kernel_rfl) (fun _ _ _ h => h) (Or.inl ⟨by kernel_rfl, ?y40⟩) (by assumption) ?_
              case y40 => (intro w hSw; (try dsimp only at hSw); first | (go_simp; done) | (go_simp; with_reducible rfl))
              simp only [Act.put, List.setIfInBounds_toArray, List.set_cons_zero, List.set_cons_succ]
              refine wpAnyH_take (i := 17) (oi := ⟨some 95, _, _, _, _, _⟩) (v := ?_) rfl (by kernel_rfl) (by kernel_rfl) (by kernel_rfl) (fun _ _ _ h => h) (Or.inl ⟨by kernel_rfl, ?y41⟩) (by assumption) ?_
              case y41 => (intro w hSw; (try dsimp only at hSw); first | (go_simp; done) | (go_simp; with_reducible rfl))
              simp only [Act.put, List.setIfInBounds_toArray, List.set_cons_zero, List.set_cons_succ]
              refine wpAnyH_take (i := 18) (oi := ⟨some 96, _, _, _, _, _⟩) (v := ?_) rfl (by kernel_rfl) (by kernel_rfl) (by kernel_rfl) (fun _ _ _ h => h) (Or.inl ⟨by kernel_rfl, ?y42⟩) (by assumption) ?_
              case y42 => (intro w hSw; (try dsimp only at hSw); first | (go_simp; done) | (go_simp; with_reducible rfl))
              simp only [Act.put, List.setIfInBounds_toArray, List.set_cons_zero, List.set_cons_succ]
              refine wpAnyH_take (i := 19) (oi := ⟨some 97, _, _, _, _, _⟩) (v := ?_) rfl (by kernel_rfl) (by kernel_rfl) (by kernel_rfl) (fun _ _ _ h => h) (Or.inl ⟨by kernel_rfl, ?y43⟩) (by assumption) ?_
              case y43 => (intro w hSw; (try dsimp only at hSw); first | (go_simp; done) | (go_simp; with_reducible rfl))
              simp only [Act.put, List.setIfInBounds_toArray, List.set_cons_zero, List.set_cons_succ]
              refine wpAnyH_take (i := 20) (oi := ⟨some 98, _, _, _, _, _⟩) (v := ?_) rfl (by kernel_rfl) (by kernel_rfl) (by kernel_rfl) (fun _ _ _ h => h) (Or.inl ⟨by kernel_rfl, ?y44⟩) (by assumption) ?_
              case y44 => (intro w hSw; (try dsimp only at hSw); first | (go_simp; done) | (go_simp; with_reducible rfl))
              simp only [Act.put, List.setIfInBounds_toArray, List.set_cons_zero, List.set_cons_succ]
              refine wpAnyH_take (i := 21) (oi := ⟨some 99, _, _, _, _, _⟩) (v := ?_) rfl (by kernel_rfl) (by kernel_rfl) (by kernel_rfl) (fun _ _ _ h => h) (Or.inl ⟨by kernel_rfl, ?y45⟩) (by assumption) ?_
              case y45 => (intro w hSw; (try dsimp only at hSw); first | (go_simp; done) | (go_simp; with_reducible rfl))
              simp only [Act.put, List.setIfInBounds_toArray, List.set_cons_zero, List.set_cons_succ]
              refine wpAnyH_take (i := 22) (oi := ⟨some 100, _, _, _, _, _⟩) (v := ?_) rfl (by kernel_rfl) (by kernel_rfl) (by kernel_rfl) (fun _ _ _ h => h) (Or.inl ⟨by kernel_rfl, ?y46⟩) (by assumption) ?_
              case y46 => (intro w hSw; (try dsimp only at hSw); first | (go_simp; done) | (go_simp; with_reducible rfl))
              simp only [Act.put, List.setIfInBounds_toArray, List.set_cons_zero, List.set_cons_succ]
              refine wpAnyH_take (i := 23) (oi := ⟨some 101, _, _, _, _, _⟩) (v := ?_) rfl (by kernel_rfl) (by kernel_rfl) (by kernel_rfl) (fun _ _ _ h => h) (Or.inl ⟨by kernel_rfl, ?y47⟩) (by assumption) ?_
              case y47 => (intro w hSw; (try dsimp only at hSw); first | (go_simp; done) | (go_simp; with_reducible rfl))
              simp only [Act.put, List.setIfInBounds_toArray, List.set_cons_zero, List.set_cons_succ]
              refine wpAnyH_take (i := 24) (oi := ⟨some 102, _, _, _, _, _⟩) (v := ?_) rfl (by kernel_rfl) (by kernel_rfl) (by kernel_rfl) (fun _ _ _ h => h) (Or.inl ⟨by kernel_rfl, ?y48⟩) (by assumption) ?_
              case y48 => (intro w hSw; (try dsimp only at hSw); first | (go_simp; done) | (go_simp; with_reducible rfl))
              simp only [Act.put, List.setIfInBounds_toArray, List.set_cons_zero, List.set_cons_succ]
              refine wpAnyH_ready (rs := [25]) (by kernel_rfl) (by simp) ?_
              refine AllReadyH.cons (o := ⟨some 103, _, _, _, _, _⟩) rfl (fun K hK => ?_) AllReadyH.nil
              go_simp
              (go_at_call 63; (with_reducible refine (imay_any _ _ _ _ hf _ ((HP.out.dat_take k).below B5.out (Nat.le_refl _) |>.more B5.out.size) (by rw [List.length_take, HM.out]; omega) (by omega)).mono ?_); rintro e w7 ⟨rfl, b7⟩; have X7 := Lib.hid (X5.out.below b7 X5.out.lt); have D7 := Lib.hid (D5.out.below b7 D5.out.lt); have B7 := Lib.hid (bstep B5.out b7 B5.out.size); have s0 := X7.out.get 0 rfl; have s1 := X7.out.get 1 rfl; have s2 := X7.out.get 2 rfl; have s3 := X7.out.get 3 rfl; have s4 := X7.out.get 4 rfl; have v0 := D7.out.get 0 rfl; have v1 := D7.out.get 1 rfl; have v2 := D7.out.get 2 rfl; have v3 := D7.out.get 3 rfl; have v4 := D7.out.get 4 rfl; have v5 := D7.out.get 5 rfl; have v6 := D7.out.get 6 rfl; clear b7)
              first | go_wp2_with fail | skip
              refine hK.out _ _ (by first | exact ⟨y0, y1, y2, y3, y4, q0, q1, q2, q3, q4, q5, q6⟩ | exact ⟨z0, z1, z2, z3, z4, r0, r1, r2, r3, r4, r5, r6⟩ | exact ⟨s0, s1, s2, s3, s4, v0, v1, v2, v3, v4, v5, v6⟩ | go_keep) (fun hHeld => ?_)
              clear hK K
              try simp only [Act.put, List.setIfInBounds_toArray, List.set_cons_zero, List.set_cons_succ]
              refine wpAnyH_take (i := 26) (oi := ⟨some 104, _, _, _, _, _⟩) (v := ?_) rfl (by kernel_rfl) (by kernel_rfl) (by kernel_rfl) (fun _ _ _ h => h) (Or.inl ⟨by kernel_rfl, ?y49⟩) (by assumption) ?_
              case y49 => (intro w hSw; (try dsimp only at hSw); first | (go_simp; done) | (go_simp; with_reducible rfl))
              simp only [Act.put, List.setIfInBounds_toArray, List.set_cons_zero, List.set_cons_succ]
              refine wpAnyH_take (i := 27) (oi := ⟨some 105, _, _, _, _, _⟩) (v := ?_) rfl (by kernel_rfl) (by kernel_rfl) (by kernel_rfl) (fun _ _ _ h => h) (Or.inl ⟨by kernel_rfl, ?y50⟩) (by assumption) ?_
              case y50 => (intro w hSw; (try dsimp only at hSw); first | (go_simp; done) | (go_simp; with_reducible rfl))
              simp only [Act.put, List.setIfInBounds_toArray, List.set_cons_zero, List.set_cons_succ]
              refine wpAnyH_done (by kernel_rfl) ?_ _
              go_wp2
              go_ret
              exact ⟨ret_bool (by rw [HE.out, HA2.out] <;> simp), B7.out⟩
          · subst h2
            have e3 : decide (st ≤ g1) = true := decide_eq_true (by omega)
            have HA2 := Lib.hid (HA.out.trans (by rw [decide_eq_false h3]; simp) : sentFrom (fun i => sadd fi i) st ps ps 0 = false)
            clear HA
            go_wp2
            refine wp_region_held_drew (S := fun w' => w'.cell? ⟨w.heap.size, 0, none⟩ = some (.int .i64 tag) ∧ w'.cell? ⟨w.heap.size, 1, none⟩ = some (.int .i64 st) ∧ w'.cell? ⟨w.heap.size, 2, none⟩ = some (.int .i64 fi) ∧ w'.cell? ⟨w.heap.size, 3, none⟩ = some (.slice (some ⟨b, off, none⟩) m c) ∧ w'.cell? ⟨w.heap.size, 4, none⟩ = some (.int .i64 ac) ∧ w'.cell? ⟨wr.heap.size, 0, none⟩ = some (.int .i64 g0) ∧ w'.cell? ⟨wr.heap.size, 1, none⟩ = some (.int .i64 g1) ∧ w'.cell? ⟨wr.heap.size, 2, none⟩ = some (.int .i64 g2) ∧ w'.cell? ⟨wr.heap.size, 3, none⟩ = some (.bool g3) ∧ w'.cell? ⟨wr.heap.size, 4, none⟩ = some (.bool g4) ∧ w'.cell? ⟨wr.heap.size, 5, none⟩ = some (.bool g5) ∧ w'.cell? ⟨wr.heap.size, 6, none⟩ = some (.string g6)) (by kernel_rfl) (by first | exact ⟨y0, y1, y2, y3, y4, q0, q1, q2, q3, q4, q5, q6⟩ | exact ⟨z0, z1, z2, z3, z4, r0, r1, r2, r3, r4, r5, r6⟩ | exact ⟨s0, s1, s2, s3, s4, v0, v1, v2, v3, v4, v5, v6⟩ | go_keep) (fun hHeld => ?_)
            refine wpAnyH_take (i := 0) (oi := ⟨some 78, _, _, _, _, _⟩) (v := ?_) rfl (by kernel_rfl) (by kernel_rfl) (by kernel_rfl) (fun _ _ _ h => h) (Or.inl ⟨by kernel_rfl, ?y51⟩) (by assumption) ?_
            case y51 => (intro w hSw; (try dsimp only at hSw); first | (go_simp; done) | (go_simp; with_reducible rfl))
            simp only [Act.put, List.setIfInBounds_toArray, List.set_cons_zero, List.set_cons_succ]
            refine wpAnyH_ready (rs := [1]) (by kernel_rfl) (by simp) ?_
            refine AllReadyH.cons (o := ⟨some 79, _, _, _, _, _⟩) rfl (fun K hK => ?_) AllReadyH.nil
            go_simp
            (go_at_call 43; (with_reducible refine (idata_eq h1 hts _).mono ?_); rintro e w5 ⟨rfl, b5⟩; have X5 := Lib.hid (XA.out.drew.below b5 XA.out.drew.lt); have D5 := Lib.hid (HD.out.drew.below b5 HD.out.drew.lt); have B5 := Lib.hid (bstep BA.out.drew b5 BA.out.size); have z0 := X5.out.get 0 rfl; have z1 := X5.out.get 1 rfl; have z2 := X5.out.get 2 rfl; have z3 := X5.out.get 3 rfl; have z4 := X5.out.get 4 rfl; have r0 := D5.out.get 0 rfl; have r1 := D5.out.get 1 rfl; have r2 := D5.out.get 2 rfl; have r3 := D5.out.get 3 rfl; have r4 := D5.out.get 4 rfl; have r5 := D5.out.get 5 rfl; have r6 := D5.out.get 6 rfl; clear b5)
            first | go_wp2_with fail | skip
            refine hK.out _ _ (by first | exact ⟨y0, y1, y2, y3, y4, q0, q1, q2, q3, q4, q5, q6⟩ | exact ⟨z0, z1, z2, z3, z4, r0, r1, r2, r3, r4, r5, r6⟩ | exact ⟨s0, s1, s2, s3, s4, v0, v1, v2, v3, v4, v5, v6⟩ | go_keep) (fun hHeld => ?_)
            clear hK K
            try simp only [Act.put, List.setIfInBounds_toArray, List.set_cons_zero, List.set_cons_succ]
            refine wpAnyH_take (i := 2) (oi := ⟨some 80, _, _, _, _, _⟩) (v := ?_) rfl (by kernel_rfl) (by kernel_rfl) (by kernel_rfl) (fun _ _ _ h => h) (Or.inl ⟨by kernel_rfl, ?y52⟩) (by assumption) ?_
            case y52 => (intro w hSw; (try dsimp only at hSw); first | (go_simp; done) | (go_simp; with_reducible rfl))
            simp only [Act.put, List.setIfInBounds_toArray, List.set_cons_zero, List.set_cons_succ]
            refine wpAnyH_take (i := 3) (oi := ⟨some 81, _, _, _, _, _⟩) (v := ?_) rfl (by kernel_rfl) (by kernel_rfl) (by kernel_rfl) (fun _ _ _ h => h) (Or.inl ⟨by kernel_rfl, ?y53⟩) (by assumption) ?_
            case y53 => (intro w hSw; (try dsimp only at hSw); first | (go_simp; done) | (go_simp; with_reducible rfl))
            simp only [Act.put, List.setIfInBounds_toArray, List.set_cons_zero, List.set_cons_succ]
            refine wpAnyH_take (i := 4) (oi := ⟨some 82, _, _, _, _, _⟩) (v := ?_) rfl (by kernel_rfl) (by kernel_rfl) (by kernel_rfl) (fun _ _ _ h => h) (Or.inl ⟨by kernel_rfl, ?y54⟩) (by assumption) ?_
            case y54 => (intro w hSw; (try dsimp only at hSw); first | (go_simp; done) | (go_simp; with_reducible rfl))
            simp only [Act.put, List.setIfInBounds_toArray, List.set_cons_zero, List.set_cons_succ]
            refine wpAnyH_take (i := 5) (oi := ⟨some 83, _, _, _, _, _⟩) (v := ?_) rfl (by kernel_rfl) (by kernel_rfl) (by kernel_rfl) (fun _ _ _ h => h) (Or.inl ⟨by kernel_rfl, ?y55⟩) (by assumption) ?_
            case y55 => (intro w hSw; (try dsimp only at hSw); first | (go_simp; done) | (go_simp; with_reducible rfl))
            simp only [Act.put, List.setIfInBounds_toArray, List.set_cons_zero, List.set_cons_succ]
            refine wpAnyH_take (i := 6) (oi := ⟨some 84, _, _, _, _, _⟩) (v := ?_) rfl (by kernel_rfl) (by kernel_rfl) (by kernel_rfl) (fun _ _ _ h => h) (Or.inl ⟨by kernel_rfl, ?y56⟩) (by assumption) ?_
            case y56 => (intro w hSw; (try dsimp only at hSw); first | (go_simp; done) | (go_simp; with_reducible rfl))
            simp only [Act.put, List.setIfInBounds_toArray, List.set_cons_zero, List.set_cons_succ]
            refine wpAnyH_take (i := 7) (oi := ⟨some 85, _, _, _, _, _⟩) (v := ?_) rfl (by kernel_rfl) (by kernel_rfl) (by kernel_rfl) (fun _ _ _ h => h) (Or.inl ⟨by kernel_rfl, ?y57⟩) (by assumption) ?_
            case y57 => (intro w hSw; (try dsimp only at hSw); first | (go_simp; done) | (go_simp; with_reducible rfl))
            simp only [Act.put, List.setIfInBounds_toArray, List.set_cons_zero, List.set_cons_succ]
            refine wpAnyH_take (i := 8) (oi := ⟨some 86, _, _, _, _, _⟩) (v := ?_) rfl (by kernel_rfl) (by kernel_rfl) (by kernel_rfl) (fun _ _ _ h => h) (Or.inl ⟨by kernel_rfl, ?y58⟩) (by assumption) ?_
            case y58 => (intro w hSw; (try dsimp only at hSw); first | (go_simp; done) | (go_simp; with_reducible rfl))
            simp only [Act.put, List.setIfInBounds_toArray, List.set_cons_zero, List.set_cons_succ]
            refine wpAnyH_ready (rs := [9]) (by kernel_rfl) (by simp) ?_
            refine AllReadyH.cons (o := ⟨some 87, _, _, _, _, _⟩) rfl (fun K hK => ?_) AllReadyH.nil
            go_simp
            (go_at_call 46; (with_reducible refine (iadd_eq hq _).mono ?_); rintro e w6 ⟨rfl, rfl⟩)
            first | go_wp2_with fail | skip
            refine hK.out _ _ (by first | exact ⟨y0, y1, y2, y3, y4, q0, q1, q2, q3, q4, q5, q6⟩ | exact ⟨z0, z1, z2, z3, z4, r0, r1, r2, r3, r4, r5, r6⟩ | exact ⟨s0, s1, s2, s3, s4, v0, v1, v2, v3, v4, v5, v6⟩ | go_keep) (fun hHeld => ?_)
            clear hK K
            try simp only [Act.put, List.setIfInBounds_toArray, List.set_cons_zero, List.set_cons_succ]
            refine wpAnyH_take (i := 10) (oi := ⟨some 88, _, _, _, _, _⟩) (v := ?_) rfl (by kernel_rfl) (by kernel_rfl) (by kernel_rfl) (fun _ _ _ h => h) (Or.inl ⟨by kernel_rfl, ?y59⟩) (by assumption) ?_
            case y59 => (intro w hSw; (try dsimp only at hSw); first | (go_simp; done) | (go_simp; with_reducible rfl))
            simp only [Act.put, List.setIfInBounds_toArray, List.set_cons_zero, List.set_cons_succ]
            refine wpAnyH_take (i := 11) (oi := ⟨some 89, _, _, _, _, _⟩) (v := ?_) rfl (by kernel_rfl) (by kernel_rfl) (by kernel_rfl) (fun _ _ _ h => h) (Or.inl ⟨by kernel_rfl, ?y60⟩) (by assumption) ?_
            case y60 => (intro w hSw; (try dsimp only at hSw); first | (go_simp; done) | (go_simp; with_reducible rfl))
            simp only [Act.put, List.setIfInBounds_toArray, List.set_cons_zero, List.set_cons_succ]
            refine wpAnyH_take (i := 12) (oi := ⟨some 90, _, _, _, _, _⟩) (v := ?_) rfl (by kernel_rfl) (by kernel_rfl) (by kernel_rfl) (fun _ _ _ h => h) (Or.inl ⟨by kernel_rfl, ?y61⟩) (by assumption) ?_
            case y61 => (intro w hSw; (try dsimp only at hSw); first | (go_simp; done) | (go_simp; with_reducible rfl))
            simp only [Act.put, List.setIfInBounds_toArray, List.set_cons_zero, List.set_cons_succ]
            refine wpAnyH_take (i := 13) (oi := ⟨some 91, _, _, _, _, _⟩) (v := ?_) rfl (by kernel_rfl) (by kernel_rfl) (by kernel_rfl) (fun _ _ _ h => h) (Or.inl ⟨by kernel_rfl, ?y62⟩) (by assumption) ?_
            case y62 => (intro w hSw; (try dsimp only at hSw); first | (go_simp; done) | (go_simp; with_reducible rfl))
            simp only [Act.put, List.setIfInBounds_toArray, List.set_cons_zero, List.set_cons_succ]
            refine wpAnyH_take (i := 14) (oi := ⟨some 92, _, _, _, _, _⟩) (v := ?_) rfl (by kernel_rfl) (by kernel_rfl) (by kernel_rfl) (fun _ _ _ h => h) (Or.inl ⟨by kernel_rfl, ?y63⟩) (by assumption) ?_
            case y63 => (intro w hSw; (try dsimp only at hSw); first | (go_simp; done) | (go_simp; with_reducible rfl))
            simp only [Act.put, List.setIfInBounds_toArray, List.set_cons_zero, List.set_cons_succ]
            refine wpAnyH_take (i := 15) (oi := ⟨some 93, _, _, _, _, _⟩) (v := ?_) rfl (by kernel_rfl) (by kernel_rfl) (by kernel_rfl) (fun _ _ _ h => h) (Or.inl ⟨by kernel_rfl, ?y64⟩) (by assumption) ?_
            case y64 => (intro w hSw; (try dsimp only at hSw); first | (go_simp; done) | (go_simp; with_reducible rfl))
            simp only [Act.put, List.setIfInBounds_toArray, List.set_cons_zero, List.set_cons_succ]
            refine wpAnyH_take (i := 16) (oi := ⟨some 94, _, _, _, _, _⟩) (v := ?_) rfl (by kernel_rfl) (by kernel_rfl) (by kernel_rfl) (fun _ _ _ h => h) (Or.inl ⟨by kernel_rfl, ?y65⟩) (by assumption) ?_
            case y65 => (intro w hSw; (try dsimp only at hSw); first | (go_simp; done) | (go_simp; with_reducible rfl))
            simp only [Act.put, List.setIfInBounds_toArray, List.set_cons_zero, List.set_cons_succ]
            refine wpAnyH_take (i := 17) (oi := ⟨some 95, _, _, _, _, _⟩) (v := ?_) rfl (by kernel_rfl) (by kernel_rfl) (by kernel_rfl) (fun _ _ _ h => h) (Or.inl ⟨by kernel_rfl, ?y66⟩) (by assumption) ?_
            case y66 => (intro w hSw; (try dsimp only at hSw); first | (go_simp; done) | (go_simp; with_reducible rfl))
            simp only [Act.put, List.setIfInBounds_toArray, List.set_cons_zero, List.set_cons_succ]
            refine wpAnyH_take (i := 18) (oi := ⟨some 96, _, _, _, _, _⟩) (v := ?_) rfl (by kernel_rfl) (by kernel_rfl) (by kernel_rfl) (fun _ _ _ h => h) (Or.inl ⟨by kernel_rfl, ?y67⟩) (by assumption) ?_
            case y67 => (intro w hSw; (try dsimp only at hSw); first | (go_simp; done) | (go_simp; with_reducible rfl))
            simp only [Act.put, List.setIfInBounds_toArray, List.set_cons_zero, List.set_cons_succ]
            refine wpAnyH_take (i := 19) (oi := ⟨some 97, _, _, _, _, _⟩) (v := ?_) rfl (by kernel_rfl) (by kernel_rfl) (by kernel_rfl) (fun _ _ _ h => h) (Or.inl ⟨by kernel_rfl, ?y68⟩) (by assumption) ?_
            case y68 => (intro w hSw; (try dsimp only at hSw); first | (go_simp; done) | (go_simp; with_reducible rfl))
            simp only [Act.put, List.setIfInBounds_toArray, List.set_cons_zero, List.set_cons_succ]
            refine wpAnyH_take (i := 20) (oi := ⟨some 98, _, _, _, _, _⟩) (v := undef) rfl (by kernel_rfl) (by kernel_rfl) (by kernel_rfl) (fun _ _ _ h => h) (Or.inr ⟨by kernel_rfl, rfl⟩) (by assumption) ?_
            simp only [Act.put, List.setIfInBounds_toArray, List.set_cons_zero, List.set_cons_succ]
            refine wpAnyH_take (i := 21) (oi := ⟨some 99, _, _, _, _, _⟩) (v := undef) rfl (by kernel_rfl) (by kernel_rfl) (by kernel_rfl) (fun _ _ _ h => h) (Or.inr ⟨by kernel_rfl, rfl⟩) (by assumption) ?_
            simp only [Act.put, List.setIfInBounds_toArray, List.set_cons_zero, List.set_cons_succ]
            refine wpAnyH_take (i := 22) (oi := ⟨some 100, _, _, _, _, _⟩) (v := undef) rfl (by kernel_rfl) (by kernel_rfl) (by kernel_rfl) (fun _ _ _ h => h) (Or.inr ⟨by kernel_rfl, rfl⟩) (by assumption) ?_
            simp only [Act.put, List.setIfInBounds_toArray, List.set_cons_zero, List.set_cons_succ]
            refine wpAnyH_take (i := 23) (oi := ⟨some 101, _, _, _, _, _⟩) (v := undef) rfl (by kernel_rfl) (by kernel_rfl) (by kernel_rfl) (fun _ _ _ h => h) (Or.inr ⟨by kernel_rfl, rfl⟩) (by assumption) ?_
            simp only [Act.put, List.setIfInBounds_toArray, List.set_cons_zero, List.set_cons_succ]
            refine wpAnyH_take (i := 24) (oi := ⟨some 102, _, _, _, _, _⟩) (v := undef) rfl (by kernel_rfl) (by kernel_rfl) (by kernel_rfl) (fun _ _ _ h => h) (Or.inr ⟨by kernel_rfl, rfl⟩) (by assumption) ?_
            simp only [Act.put, List.setIfInBounds_toArray, List.set_cons_zero, List.set_cons_succ]
            refine wpAnyH_take (i := 25) (oi := ⟨some 103, _, _, _, _, _⟩) (v := undef) rfl (by kernel_rfl) (by kernel_rfl) (by kernel_rfl) (fun _ _ _ h => h) (Or.inr ⟨by kernel_rfl, rfl⟩) (by assumption) ?_
            simp only [Act.put, List.setIfInBounds_toArray, List.set_cons_zero, List.set_cons_succ]
            refine wpAnyH_take (i := 26) (oi := ⟨some 104, _, _, _, _, _⟩) (v := undef) rfl (by kernel_rfl) (by kernel_rfl) (by kernel_rfl) (fun _ _ _ h => h) (Or.inr ⟨by kernel_rfl, rfl⟩) (by assumption) ?_
            simp only [Act.put, List.setIfInBounds_toArray, List.set_cons_zero, List.set_cons_succ]
            refine wpAnyH_take (i := 27) (oi := ⟨some 105, _, _, _, _, _⟩) (v := ?_) rfl (by kernel_rfl) (by kernel_rfl) (by kernel_rfl) (fun _ _ _ h => h) (Or.inl ⟨by kernel_rfl, ?y69⟩) (by assumption) ?_
            case y69 => (intro w hSw; (try dsimp only at hSw); first | (go_simp; done) | (go_simp; with_reducible rfl))
            simp only [Act.put, List.setIfInBounds_toArray, List.set_cons_zero, List.set_cons_succ]
            refine wpAnyH_done (by kernel_rfl) ?_ _
            go_wp2
            go_ret
            exact ⟨ret_bool (by rw [HE.out, HA2.out] <;> simp), B5.out⟩
        · have e2 : (g0 != qq) = true := by simpa using h2
          have HA2 := Lib.hid (HA.out.trans (by rw [(by simpa using h2 : (g0 == qq) = false)]; simp) : sentFrom (fun i => sadd fi i) st ps ps 0 = false)
          clear HA
          go_wp2
          refine wp_region_held_drew (S := fun w' => w'.cell? ⟨w.heap.size, 0, none⟩ = some (.int .i64 tag) ∧ w'.cell? ⟨w.heap.size, 1, none⟩ = some (.int .i64 st) ∧ w'.cell? ⟨w.heap.size, 2, none⟩ = some (.int .i64 fi) ∧ w'.cell? ⟨w.heap.size, 3, none⟩ = some (.slice (some ⟨b, off, none⟩) m c) ∧ w'.cell? ⟨w.heap.size, 4, none⟩ = some (.int .i64 ac) ∧ w'.cell? ⟨wr.heap.size, 0, none⟩ = some (.int .i64 g0) ∧ w'.cell? ⟨wr.heap.size, 1, none⟩ = some (.int .i64 g1) ∧ w'.cell? ⟨wr.heap.size, 2, none⟩ = some (.int .i64 g2) ∧ w'.cell? ⟨wr.heap.size, 3, none⟩ = some (.bool g3) ∧ w'.cell? ⟨wr.heap.size, 4, none⟩ = some (.bool g4) ∧ w'.cell? ⟨wr.heap.size, 5, none⟩ = some (.bool g5) ∧ w'.cell? ⟨wr.heap.size, 6, none⟩ = some (.string g6)) (by kernel_rfl) (by first | exact ⟨y0, y1, y2, y3, y4, q0, q1, q2, q3, q4, q5, q6⟩ | exact ⟨z0, z1, z2, z3, z4, r0, r1, r2, r3, r4, r5, r6⟩ | exact ⟨s0, s1, s2, s3, s4, v0, v1, v2, v3, v4, v5, v6⟩ | go_keep) (fun hHeld => ?_)
          refine wpAnyH_take (i := 0) (oi := ⟨some 78, _, _, _, _, _⟩) (v := ?_) rfl (by kernel_rfl) (by kernel_rfl) (by kernel_rfl) (fun _ _ _ h => h) (Or.inl ⟨by kernel_rfl, ?y70⟩) (by assumption) ?_
          case y70 => (intro w hSw; (try dsimp only at hSw); first | (go_simp; done) | (go_simp; with_reducible rfl))
          simp only [Act.put, List.setIfInBounds_toArray, List.set_cons_zero, List.set_cons_succ]
          refine wpAnyH_ready (rs := [1]) (by kernel_rfl) (by simp) ?_
          refine AllReadyH.cons (o := ⟨some 79, _, _, _, _, _⟩) rfl (fun K hK => ?_) AllReadyH.nil
          go_simp
          (go_at_call 43; (with_reducible refine (idata_eq h1 hts _).mono ?_); rintro e w5 ⟨rfl, b5⟩; have X5 := Lib.hid (XA.out.drew.below b5 XA.out.drew.lt); have D5 := Lib.hid (HD.out.drew.below b5 HD.out.drew.lt); have B5 := Lib.hid (bstep BA.out.drew b5 BA.out.size); have z0 := X5.out.get 0 rfl; have z1 := X5.out.get 1 rfl; have z2 := X5.out.get 2 rfl; have z3 := X5.out.get 3 rfl; have z4 := X5.out.get 4 rfl; have r0 := D5.out.get 0 rfl; have r1 := D5.out.get 1 rfl; have r2 := D5.out.get 2 rfl; have r3 := D5.out.get 3 rfl; have r4 := D5.out.get 4 rfl; have r5 := D5.out.get 5 rfl; have r6 := D5.out.get 6 rfl; clear b5)
          first | go_wp2_with fail | skip
          refine hK.out _ _ (by first | exact ⟨y0, y1, y2, y3, y4, q0, q1, q2, q3, q4, q5, q6⟩ | exact ⟨z0, z1, z2, z3, z4, r0, r1, r2, r3, r4, r5, r6⟩ | exact ⟨s0, s1, s2, s3, s4, v0, v1, v2, v3, v4, v5, v6⟩ | go_keep) (fun hHeld => ?_)
          clear hK K
          try simp only [Act.put, List.setIfInBounds_toArray, List.set_cons_zero, List.set_cons_succ]
          refine wpAnyH_take (i := 2) (oi := ⟨some 80, _, _, _, _, _⟩) (v := ?_) rfl (by kernel_rfl) (by kernel_rfl) (by kernel_rfl) (fun _ _ _ h => h) (Or.inl ⟨by kernel_rfl, ?y71⟩) (by assumption) ?_
          case y71 => (intro w hSw; (try dsimp only at hSw); first | (go_simp; done) | (go_simp; with_reducible rfl))
          simp only [Act.put, List.setIfInBounds_toArray, List.set_cons_zero, List.set_cons_succ]
          refine wpAnyH_take (i := 3) (oi := ⟨some 81, _, _, _, _, _⟩) (v := ?_) rfl (by kernel_rfl) (by kernel_rfl) (by kernel_rfl) (fun _ _ _ h => h) (Or.inl ⟨by kernel_rfl, ?y72⟩) (by assumption) ?_
          case y72 => (intro w hSw; (try dsimp only at hSw); first | (go_simp; done) | (go_simp; with_reducible rfl))
          simp only [Act.put, List.setIfInBounds_toArray, List.set_cons_zero, List.set_cons_succ]
          refine wpAnyH_take (i := 4) (oi := ⟨some 82, _, _, _, _, _⟩) (v := ?_) rfl (by kernel_rfl) (by kernel_rfl) (by kernel_rfl) (fun _ _ _ h => h) (Or.inl ⟨by kernel_rfl, ?y73⟩) (by assumption) ?_
          case y73 => (intro w hSw; (try dsimp only at hSw); first | (go_simp; done) | (go_simp; with_reducible rfl))
          simp only [Act.put, List.setIfInBounds_toArray, List.set_cons_zero, List.set_cons_succ]
          refine wpAnyH_take (i := 5) (oi := ⟨some 83, _, _, _, _, _⟩) (v := ?_) rfl (by kernel_rfl) (by kernel_rfl) (by kernel_rfl) (fun _ _ _ h => h) (Or.inl ⟨by kernel_rfl, ?y74⟩) (by assumption) ?_
          case y74 => (intro w hSw; (try dsimp only at hSw); first | (go_simp; done) | (go_simp; with_reducible rfl))
          simp only [Act.put, List.setIfInBounds_toArray, List.set_cons_zero, List.set_cons_succ]
          refine wpAnyH_take (i := 6) (oi := ⟨some 84, _, _, _, _, _⟩) (v := ?_) rfl (by kernel_rfl) (by kernel_rfl) (by kernel_rfl) (fun _ _ _ h => h) (Or.inl ⟨by kernel_rfl, ?y75⟩) (by assumption) ?_
          case y75 => (intro w hSw; (try dsimp only at hSw); first | (go_simp; done) | (go_simp; with_reducible rfl))
          simp only [Act.put, List.setIfInBounds_toArray, List.set_cons_zero, List.set_cons_succ]
          refine wpAnyH_take (i := 7) (oi := ⟨some 85, _, _, _, _, _⟩) (v := ?_) rfl (by kernel_rfl) (by kernel_rfl) (by kernel_rfl) (fun _ _ _ h => h) (Or.inl ⟨by kernel_rfl, ?y76⟩) (by assumption) ?_
          case y76 => (intro w hSw; (try dsimp only at hSw); first | (go_simp; done) | (go_simp; with_reducible rfl))
          simp only [Act.put, List.setIfInBounds_toArray, List.set_cons_zero, List.set_cons_succ]
          refine wpAnyH_take (i := 8) (oi := ⟨some 86, _, _, _, _, _⟩) (v := ?_) rfl (by kernel_rfl) (by kernel_rfl) (by kernel_rfl) (fun _ _ _ h => h) (Or.inl ⟨by kernel_rfl, ?y77⟩) (by assumption) ?_
          case y77 => (intro w hSw; (try dsimp only at hSw); first | (go_simp; done) | (go_simp; with_reducible rfl))
          simp only [Act.put, List.setIfInBounds_toArray, List.set_cons_zero, List.set_cons_succ]
          refine wpAnyH_ready (rs := [9]) (by kernel_rfl) (by simp) ?_
          refine AllReadyH.cons (o := ⟨some 87, _, _, _, _, _⟩) rfl (fun K hK => ?_) AllReadyH.nil
          go_simp
          (go_at_call 46; (with_reducible refine (iadd_eq hq _).mono ?_); rintro e w6 ⟨rfl, rfl⟩)
          first | go_wp2_with fail | skip
          refine hK.out _ _ (by first | exact ⟨y0, y1, y2, y3, y4, q0, q1, q2, q3, q4, q5, q6⟩ | exact ⟨z0, z1, z2, z3, z4, r0, r1, r2, r3, r4, r5, r6⟩ | exact ⟨s0, s1, s2, s3, s4, v0, v1, v2, v3, v4, v5, v6⟩ | go_keep) (fun hHeld => ?_)
          clear hK K
          try simp only [Act.put, List.setIfInBounds_toArray, List.set_cons_zero, List.set_cons_succ]
          refine wpAnyH_take (i := 10) (oi := ⟨some 88, _, _, _, _, _⟩) (v := ?_) rfl (by kernel_rfl) (by kernel_rfl) (by kernel_rfl) (fun _ _ _ h => h) (Or.inl ⟨by kernel_rfl, ?y78⟩) (by assumption) ?_
          case y78 => (intro w hSw; (try dsimp only at hSw); first | (go_simp; done) | (go_simp; with_reducible rfl))
          simp only [Act.put, List.setIfInBounds_toArray, List.set_cons_zero, List.set_cons_succ]
          try simp only [e2]
          refine wpAnyH_take (i := 11) (oi := ⟨some 89, _, _, _, _, _⟩) (v := ?_) rfl (by kernel_rfl) (by kernel_rfl) (by kernel_rfl) (fun _ _ _ h => h) (Or.inl ⟨by kernel_rfl, ?y79⟩) (by assumption) ?_
          case y79 => (intro w hSw; (try dsimp only at hSw); first | (go_simp; done) | (go_simp; with_reducible rfl))
          simp only [Act.put, List.setIfInBounds_toArray, List.set_cons_zero, List.set_cons_succ]
          refine wpAnyH_take (i := 12) (oi := ⟨some 90, _, _, _, _, _⟩) (v := ?_) rfl (by kernel_rfl) (by kernel_rfl) (by kernel_rfl) (fun _ _ _ h => h) (Or.inl ⟨by kernel_rfl, ?y80⟩) (by assumption) ?_
          case y80 => (intro w hSw; (try dsimp only at hSw); first | (go_simp; done) | (go_simp; with_reducible rfl))
          simp only [Act.put, List.setIfInBounds_toArray, List.set_cons_zero, List.set_cons_succ]
          refine wpAnyH_take (i := 13) (oi := ⟨some 91, _, _, _, _, _⟩) (v := undef) rfl (by kernel_rfl) (by kernel_rfl) (by kernel_rfl) (fun _ _ _ h => h) (Or.inr ⟨by kernel_rfl, rfl⟩) (by assumption) ?_
          simp only [Act.put, List.setIfInBounds_toArray, List.set_cons_zero, List.set_cons_succ]
          refine wpAnyH_take (i := 14) (oi := ⟨some 92, _, _, _, _, _⟩) (v := undef) rfl (by kernel_rfl) (by kernel_rfl) (by kernel_rfl) (fun _ _ _ h => h) (Or.inr ⟨by kernel_rfl, rfl⟩) (by assumption) ?_
          simp only [Act.put, List.setIfInBounds_toArray, List.set_cons_zero, List.set_cons_succ]
          refine wpAnyH_take (i := 15) (oi := ⟨some 93, _, _, _, _, _⟩) (v := undef) rfl (by kernel_rfl) (by kernel_rfl) (by kernel_rfl) (fun _ _ _ h => h) (Or.inr ⟨by kernel_rfl, rfl⟩) (by assumption) ?_
          simp only [Act.put, List.setIfInBounds_toArray, List.set_cons_zero, List.set_cons_succ]
          refine wpAnyH_take (i := 16) (oi := ⟨some 94, _, _, _, _, _⟩) (v := undef) rfl (by kernel_rfl) (by kernel_rfl) (by kernel_rfl) (fun _ _ _ h => h) (Or.inr ⟨by kernel_rfl, rfl⟩) (by assumption) ?_
          simp only [Act.put, List.setIfInBounds_toArray, List.set_cons_zero, List.set_cons_succ]
          refine wpAnyH_take (i := 17) (oi := ⟨some 95, _, _, _, _, _⟩) (v := undef) rfl (by kernel_rfl) (by kernel_rfl) (by kernel_rfl) (fun _ _ _ h => h) (Or.inr ⟨by kernel_rfl, rfl⟩) (by assumption) ?_
          simp only [Act.put, List.setIfInBounds_toArray, List.set_cons_zero, List.set_cons_succ]
          refine wpAnyH_take (i := 18) (oi := ⟨some 96, _, _, _, _, _⟩) (v := ?_) rfl (by kernel_rfl) (by kernel_rfl) (by kernel_rfl) (fun _ _ _ h => h) (Or.inl ⟨by kernel_rfl, ?y81⟩) (by assumption) ?_
          case y81 => (intro w hSw; (try dsimp only at hSw); first | (go_simp; done) | (go_simp; with_reducible rfl))
          simp only [Act.put, List.setIfInBounds_toArray, List.set_cons_zero, List.set_cons_succ]
          refine wpAnyH_take (i := 19) (oi := ⟨some 97, _, _, _, _, _⟩) (v := ?_) rfl (by kernel_rfl) (by kernel_rfl) (by kernel_rfl) (fun _ _ _ h => h) (Or.inl ⟨by kernel_rfl, ?y82⟩) (by assumption) ?_
          case y82 => (intro w hSw; (try dsimp only at hSw); first | (go_simp; done) | (go_simp; with_reducible rfl))
          simp only [Act.put, List.setIfInBounds_toArray, List.set_cons_zero, List.set_cons_succ]
          refine wpAnyH_take (i := 20) (oi := ⟨some 98, _, _, _, _, _⟩) (v := undef) rfl (by kernel_rfl) (by kernel_rfl) (by kernel_rfl) (fun _ _ _ h => h) (Or.inr ⟨by kernel_rfl, rfl⟩) (by assumption) ?_
          simp only [Act.put, List.setIfInBounds_toArray, List.set_cons_zero, List.set_cons_succ]
          refine wpAnyH_take (i := 21) (oi := ⟨some 99, _, _, _, _, _⟩) (v := undef) rfl (by kernel_rfl) (by kernel_rfl) (by kernel_rfl) (fun _ _ _ h => h) (Or.inr ⟨by kernel_rfl, rfl⟩) (by assumption) ?_
          simp only [Act.put, List.setIfInBounds_toArray, List.set_cons_zero, List.set_cons_succ]
          refine wpAnyH_take (i := 22) (oi := ⟨some 100, _, _, _, _, _⟩) (v := undef) rfl (by kernel_rfl) (by kernel_rfl) (by kernel_rfl) (fun _ _ _ h => h) (Or.inr ⟨by kernel_rfl, rfl⟩) (by assumption) ?_
          simp only [Act.put, List.setIfInBounds_toArray, List.set_cons_zero, List.set_cons_succ]
          refine wpAnyH_take (i := 23) (oi := ⟨some 101, _, _, _, _, _⟩) (v := undef) rfl (by kernel_rfl) (by kernel_rfl) (by kernel_rfl) (fun _ _ _ h => h) (Or.inr ⟨by kernel_rfl, rfl⟩) (by assumption) ?_
          simp only [Act.put, List.setIfInBounds_toArray, List.set_cons_zero, List.set_cons_succ]
          refine wpAnyH_take (i := 24) (oi := ⟨some 102, _, _, _, _, _⟩) (v := undef) rfl (by kernel_rfl) (by kernel_rfl) (by kernel_rfl) (fun _ _ _ h => h) (Or.inr ⟨by kernel_rfl, rfl⟩) (by assumption) ?_
          simp only [Act.put, List.setIfInBounds_toArray, List.set_cons_zero, List.set_cons_succ]
          refine wpAnyH_take (i := 25) (oi := ⟨some 103, _, _, _, _, _⟩) (v := undef) rfl (by kernel_rfl) (by kernel_rfl) (by kernel_rfl) (fun _ _ _ h => h) (Or.inr ⟨by kernel_rfl, rfl⟩) (by assumption) ?_
          simp only [Act.put, List.setIfInBounds_toArray, List.set_cons_zero, List.set_cons_succ]
          refine wpAnyH_take (i := 26) (oi := ⟨some 104, _, _, _, _, _⟩) (v := undef) rfl (by kernel_rfl) (by kernel_rfl) (by kernel_rfl) (fun _ _ _ h => h) (Or.inr ⟨by kernel_rfl, rfl⟩) (by assumption) ?_
          simp only [Act.put, List.setIfInBounds_toArray, List.set_cons_zero, List.set_cons_succ]
          refine wpAnyH_take (i := 27) (oi := ⟨some 105, _, _, _, _, _⟩) (v := ?_) rfl (by kernel_rfl) (by kernel_rfl) (by kernel_rfl) (fun _ _ _ h => h) (Or.inl ⟨by kernel_rfl, ?y83⟩) (by assumption) ?_
          case y83 => (intro w hSw; (try dsimp only at hSw); first | (go_simp; done) | (go_simp; with_reducible rfl))
          simp only [Act.put, List.setIfInBounds_toArray, List.set_cons_zero, List.set_cons_succ]
          refine wpAnyH_done (by kernel_rfl) ?_ _
          go_wp2
          go_ret
          exact ⟨ret_bool (by rw [HE.out, HA2.out] <;> simp), B5.out⟩
      · replace h1 := Bool.eq_false_iff.2 h1
        have HA2 := Lib.hid (HA.out.trans (by rw [h1]; simp) : sentFrom (fun i => sadd fi i) st ps ps 0 = false)
        clear HA
        go_wp2
        refine wp_region_held_drew (S := fun w' => w'.cell? ⟨w.heap.size, 0, none⟩ = some (.int .i64 tag) ∧ w'.cell? ⟨w.heap.size, 1, none⟩ = some (.int .i64 st) ∧ w'.cell? ⟨w.heap.size, 2, none⟩ = some (.int .i64 fi) ∧ w'.cell? ⟨w.heap.size, 3, none⟩ = some (.slice (some ⟨b, off, none⟩) m c) ∧ w'.cell? ⟨w.heap.size, 4, none⟩ = some (.int .i64 ac) ∧ w'.cell? ⟨wr.heap.size, 0, none⟩ = some (.int .i64 g0) ∧ w'.cell? ⟨wr.heap.size, 1, none⟩ = some (.int .i64 g1) ∧ w'.cell? ⟨wr.heap.size, 2, none⟩ = some (.int .i64 g2) ∧ w'.cell? ⟨wr.heap.size, 3, none⟩ = some (.bool g3) ∧ w'.cell? ⟨wr.heap.size, 4, none⟩ = some (.bool g4) ∧ w'.cell? ⟨wr.heap.size, 5, none⟩ = some (.bool g5) ∧ w'.cell? ⟨wr.heap.size, 6, none⟩ = some (.string g6)) (by kernel_rfl) (by first | exact ⟨y0, y1, y2, y3, y4, q0, q1, q2, q3, q4, q5, q6⟩ | exact ⟨z0, z1, z2, z3, z4, r0, r1, r2, r3, r4, r5, r6⟩ | exact ⟨s0, s1, s2, s3, s4, v0, v1, v2, v3, v4, v5, v6⟩ | go_keep) (fun hHeld => ?_)
        refine wpAnyH_take (i := 0) (oi := ⟨some 78, _, _, _, _, _⟩) (v := ?_) rfl (by kernel_rfl) (by kernel_rfl) (by kernel_rfl) (fun _ _ _ h => h) (Or.inl ⟨by kernel_rfl, ?y84⟩) (by assumption) ?_
        case y84 => (intro w hSw; (try dsimp only at hSw); first | (go_simp; done) | (go_simp; with_reducible rfl))
        simp only [Act.put, List.setIfInBounds_toArray, List.set_cons_zero, List.set_cons_succ]
        refine wpAnyH_ready (rs := [1]) (by kernel_rfl) (by simp) ?_
        refine AllReadyH.cons (o := ⟨some 79, _, _, _, _, _⟩) rfl (fun K hK => ?_) AllReadyH.nil
        go_simp
        (go_at_call 43; (with_reducible refine (idata_eq h1 hts _).mono ?_); rintro e w5 ⟨rfl, b5⟩; have X5 := Lib.hid (XA.out.drew.below b5 XA.out.drew.lt); have D5 := Lib.hid (HD.out.drew.below b5 HD.out.drew.lt); have B5 := Lib.hid (bstep BA.out.drew b5 BA.out.size); have z0 := X5.out.get 0 rfl; have z1 := X5.out.get 1 rfl; have z2 := X5.out.get 2 rfl; have z3 := X5.out.get 3 rfl; have z4 := X5.out.get 4 rfl; have r0 := D5.out.get 0 rfl; have r1 := D5.out.get 1 rfl; have r2 := D5.out.get 2 rfl; have r3 := D5.out.get 3 rfl; have r4 := D5.out.get 4 rfl; have r5 := D5.out.get 5 rfl; have r6 := D5.out.get 6 rfl; clear b5)
        first | go_wp2_with fail | skip
        refine hK.out _ _ (by first | exact ⟨y0, y1, y2, y3, y4, q0, q1, q2, q3, q4, q5, q6⟩ | exact ⟨z0, z1, z2, z3, z4, r0, r1, r2, r3, r4, r5, r6⟩ | exact ⟨s0, s1, s2, s3, s4, v0, v1, v2, v3, v4, v5, v6⟩ | go_keep) (fun hHeld => ?_)
        clear hK K
        try simp only [Act.put, List.setIfInBounds_toArray, List.set_cons_zero, List.set_cons_succ]
        refine wpAnyH_take (i := 2) (oi := ⟨some 80, _, _, _, _, _⟩) (v := ?_) rfl (by kernel_rfl) (by kernel_rfl) (by kernel_rfl) (fun _ _ _ h => h) (Or.inl ⟨by kernel_rfl, ?y85⟩) (by assumption) ?_
        case y85 => (intro w hSw; (try dsimp only at hSw); first | (go_simp; done) | (go_simp; with_reducible rfl))
        simp only [Act.put, List.setIfInBounds_toArray, List.set_cons_zero, List.set_cons_succ]
        refine wpAnyH_take (i := 3) (oi := ⟨some 81, _, _, _, _, _⟩) (v := ?_) rfl (by kernel_rfl) (by kernel_rfl) (by kernel_rfl) (fun _ _ _ h => h) (Or.inl ⟨by kernel_rfl, ?y86⟩) (by assumption) ?_
        case y86 => (intro w hSw; (try dsimp only at hSw); first | (go_simp; done) | (go_simp; with_reducible rfl))
        simp only [Act.put, List.setIfInBounds_toArray, List.set_cons_zero, List.set_cons_succ]
        refine wpAnyH_take (i := 4) (oi := ⟨some 82, _, _, _, _, _⟩) (v := undef) rfl (by kernel_rfl) (by kernel_rfl) (by kernel_rfl) (fun _ _ _ h => h) (Or.inr ⟨by kernel_rfl, rfl⟩) (by assumption) ?_
        simp only [Act.put, List.setIfInBounds_toArray, List.set_cons_zero, List.set_cons_succ]
        refine wpAnyH_take (i := 5) (oi := ⟨some 83, _, _, _, _, _⟩) (v := undef) rfl (by kernel_rfl) (by kernel_rfl) (by kernel_rfl) (fun _ _ _ h => h) (Or.inr ⟨by kernel_rfl, rfl⟩) (by assumption) ?_
        simp only [Act.put, List.setIfInBounds_toArray, List.set_cons_zero, List.set_cons_succ]
        refine wpAnyH_take (i := 6) (oi := ⟨some 84, _, _, _, _, _⟩) (v := undef) rfl (by kernel_rfl) (by kernel_rfl) (by kernel_rfl) (fun _ _ _ h => h) (Or.inr ⟨by kernel_rfl, rfl⟩) (by assumption) ?_
        simp only [Act.put, List.setIfInBounds_toArray, List.set_cons_zero, List.set_cons_succ]
        refine wpAnyH_take (i := 7) (oi := ⟨some 85, _, _, _, _, _⟩) (v := undef) rfl (by kernel_rfl) (by kernel_rfl) (by kernel_rfl) (fun _ _ _ h => h) (Or.inr ⟨by kernel_rfl, rfl⟩) (by assumption) ?_
        simp only [Act.put, List.setIfInBounds_toArray, List.set_cons_zero, List.set_cons_succ]
        refine wpAnyH_take (i := 8) (oi := ⟨some 86, _, _, _, _, _⟩) (v := undef) rfl (by kernel_rfl) (by kernel_rfl) (by kernel_rfl) (fun _ _ _ h => h) (Or.inr ⟨by kernel_rfl, rfl⟩) (by assumption) ?_
        simp only [Act.put, List.setIfInBounds_toArray, List.set_cons_zero, List.set_cons_succ]
        refine wpAnyH_take (i := 9) (oi := ⟨some 87, _, _, _, _, _⟩) (v := undef) rfl (by kernel_rfl) (by kernel_rfl) (by kernel_rfl) (fun _ _ _ h => h) (Or.inr ⟨by kernel_rfl, rfl⟩) (by assumption) ?_
        simp only [Act.put, List.setIfInBounds_toArray, List.set_cons_zero, List.set_cons_succ]
        refine wpAnyH_take (i := 10) (oi := ⟨some 88, _, _, _, _, _⟩) (v := undef) rfl (by kernel_rfl) (by kernel_rfl) (by kernel_rfl) (fun _ _ _ h => h) (Or.inr ⟨by kernel_rfl, rfl⟩) (by assumption) ?_
        simp only [Act.put, List.setIfInBounds_toArray, List.set_cons_zero, List.set_cons_succ]
        refine wpAnyH_take (i := 11) (oi := ⟨some 89, _, _, _, _, _⟩) (v := ?_) rfl (by kernel_rfl) (by kernel_rfl) (by kernel_rfl) (fun _ _ _ h => h) (Or.inl ⟨by kernel_rfl, ?y87⟩) (by assumption) ?_
        case y87 => (intro w hSw; (try dsimp only at hSw); first | (go_simp; done) | (go_simp; with_reducible rfl))
        simp only [Act.put, List.setIfInBounds_toArray, List.set_cons_zero, List.set_cons_succ]
        refine wpAnyH_take (i := 12) (oi := ⟨some 90, _, _, _, _, _⟩) (v := ?_) rfl (by kernel_rfl) (by kernel_rfl) (by kernel_rfl) (fun _ _ _ h => h) (Or.inl ⟨by kernel_rfl, ?y88⟩) (by assumption) ?_
        case y88 => (intro w hSw; (try dsimp only at hSw); first | (go_simp; done) | (go_simp; with_reducible rfl))
        simp only [Act.put, List.setIfInBounds_toArray, List.set_cons_zero, List.set_cons_succ]
        refine wpAnyH_take (i := 13) (oi := ⟨some 91, _, _, _, _, _⟩) (v := undef) rfl (by kernel_rfl) (by kernel_rfl) (by kernel_rfl) (fun _ _ _ h => h) (Or.inr ⟨by kernel_rfl, rfl⟩) (by assumption) ?_
        simp only [Act.put, List.setIfInBounds_toArray, List.set_cons_zero, List.set_cons_succ]
        refine wpAnyH_take (i := 14) (oi := ⟨some 92, _, _, _, _, _⟩) (v := undef) rfl (by kernel_rfl) (by kernel_rfl) (by kernel_rfl) (fun _ _ _ h => h) (Or.inr ⟨by kernel_rfl, rfl⟩) (by assumption) ?_
        simp only [Act.put, List.setIfInBounds_toArray, List.set_cons_zero, List.set_cons_succ]
        refine wpAnyH_take (i := 15) (oi := ⟨some 93, _, _, _, _, _⟩) (v := undef) rfl (by kernel_rfl) (by kernel_rfl) (by kernel_rfl) (fun _ _ _ h => h) (Or.inr ⟨by kernel_rfl, rfl⟩) (by assumption) ?_
        simp only [Act.put, List.setIfInBounds_toArray, List.set_cons_zero, List.set_cons_succ]
        refine wpAnyH_take (i := 16) (oi := ⟨some 94, _, _, _, _, _⟩) (v := undef) rfl (by kernel_rfl) (by kernel_rfl) (by kernel_rfl) (fun _ _ _ h => h) (Or.inr ⟨by kernel_rfl, rfl⟩) (by assumption) ?_
        simp only [Act.put, List.setIfInBounds_toArray, List.set_cons_zero, List.set_cons_succ]
        refine wpAnyH_take (i := 17) (oi := ⟨some 95, _, _, _, _, _⟩) (v := undef) rfl (by kernel_rfl) (by kernel_rfl) (by kernel_rfl) (fun _ _ _ h => h) (Or.inr ⟨by kernel_rfl, rfl⟩) (by assumption) ?_
        simp only [Act.put, List.setIfInBounds_toArray, List.set_cons_zero, List.set_cons_succ]
        refine wpAnyH_take (i := 18) (oi := ⟨some 96, _, _, _, _, _⟩) (v := ?_) rfl (by kernel_rfl) (by kernel_rfl) (by kernel_rfl) (fun _ _ _ h => h) (Or.inl ⟨by kernel_rfl, ?y89⟩) (by assumption) ?_
        case y89 => (intro w hSw; (try dsimp only at hSw); first | (go_simp; done) | (go_simp; with_reducible rfl))
        simp only [Act.put, List.setIfInBounds_toArray, List.set_cons_zero, List.set_cons_succ]
        refine wpAnyH_take (i := 19) (oi := ⟨some 97, _, _, _, _, _⟩) (v := ?_) rfl (by kernel_rfl) (by kernel_rfl) (by kernel_rfl) (fun _ _ _ h => h) (Or.inl ⟨by kernel_rfl, ?y90⟩) (by assumption) ?_
        case y90 => (intro w hSw; (try dsimp only at hSw); first | (go_simp; done) | (go_simp; with_reducible rfl))
        simp only [Act.put, List.setIfInBounds_toArray, List.set_cons_zero, List.set_cons_succ]
        refine wpAnyH_take (i := 20) (oi := ⟨some 98, _, _, _, _, _⟩) (v := undef) rfl (by kernel_rfl) (by kernel_rfl) (by kernel_rfl) (fun _ _ _ h => h) (Or.inr ⟨by kernel_rfl, rfl⟩) (by assumption) ?_
        simp only [Act.put, List.setIfInBounds_toArray, List.set_cons_zero, List.set_cons_succ]
        refine wpAnyH_take (i := 21) (oi := ⟨some 99, _, _, _, _, _⟩) (v := undef) rfl (by kernel_rfl) (by kernel_rfl) (by kernel_rfl) (fun _ _ _ h => h) (Or.inr ⟨by kernel_rfl, rfl⟩) (by assumption) ?_
        simp only [Act.put, List.setIfInBounds_toArray, List.set_cons_zero, List.set_cons_succ]
        refine wpAnyH_take (i := 22) (oi := ⟨some 100, _, _, _, _, _⟩) (v := undef) rfl (by kernel_rfl) (by kernel_rfl) (by kernel_rfl) (fun _ _ _ h => h) (Or.inr ⟨by kernel_rfl, rfl⟩) (by assumption) ?_
        simp only [Act.put, List.setIfInBounds_toArray, List.set_cons_zero, List.set_cons_succ]
        refine wpAnyH_take (i := 23) (oi := ⟨some 101, _, _, _, _, _⟩) (v := undef) rfl (by kernel_rfl) (by kernel_rfl) (by kernel_rfl) (fun _ _ _ h => h) (Or.inr ⟨by kernel_rfl, rfl⟩) (by assumption) ?_
        simp only [Act.put, List.setIfInBounds_toArray, List.set_cons_zero, List.set_cons_succ]
        refine wpAnyH_take (i := 24) (oi := ⟨some 102, _, _, _, _, _⟩) (v := undef) rfl (by kernel_rfl) (by kernel_rfl) (by kernel_rfl) (fun _ _ _ h => h) (Or.inr ⟨by kernel_rfl, rfl⟩) (by assumption) ?_
        simp only [Act.put, List.setIfInBounds_toArray, List.set_cons_zero, List.set_cons_succ]
        refine wpAnyH_take (i := 25) (oi := ⟨some 103, _, _, _, _, _⟩) (v := undef) rfl (by kernel_rfl) (by kernel_rfl) (by kernel_rfl) (fun _ _ _ h => h) (Or.inr ⟨by kernel_rfl, rfl⟩) (by assumption) ?_
        simp only [Act.put, List.setIfInBounds_toArray, List.set_cons_zero, List.set_cons_succ]
        refine wpAnyH_take (i := 26) (oi := ⟨some 104, _, _, _, _, _⟩) (v := undef) rfl (by kernel_rfl) (by kernel_rfl) (by kernel_rfl) (fun _ _ _ h => h) (Or.inr ⟨by kernel_rfl, rfl⟩) (by assumption) ?_
        simp only [Act.put, List.setIfInBounds_toArray, List.set_cons_zero, List.set_cons_succ]
        refine wpAnyH_take (i := 27) (oi := ⟨some 105, _, _, _, _, _⟩) (v := ?_) rfl (by kernel_rfl) (by kernel_rfl) (by kernel_rfl) (fun _ _ _ h => h) (Or.inl ⟨by kernel_rfl, ?y91⟩) (by assumption) ?_
        case y91 => (intro w hSw; (try dsimp only at hSw); first | (go_simp; done) | (go_simp; with_reducible rfl))
        simp only [Act.put, List.setIfInBounds_toArray, List.set_cons_zero, List.set_cons_succ]
        refine wpAnyH_done (by kernel_rfl) ?_ _
        go_wp2
        go_ret
        exact ⟨ret_bool (by rw [HE.out, HA2.out] <;> simp), B5.out⟩
    · have HA2 := Lib.hid (ha.out.trans (sent_end (by rw [HM.out]; omega)))
      clear ha
      go_wp2
      go_ret
      exact ⟨ret_bool (by rw [HE.out, HA2.out]), B.out⟩
set_option maxHeartbeats 6400000 in
set_option maxRecDepth 100000 in
theorem sside_valid (tag st fi ac : Int) (A : Option Addr) (m c : Nat) (ps : List Dat) {v : Bool} (hv : sideB tag st fi ac ps = v) (w : World) (hp : Sl w w.heap.size A (dats ps)) (hm : ps.length = m) (hmd : m ≤ c) (hd2 : c ≤ 9223372036854775807) (ht : Dats ps) :
    Calls Try.prog 51 #[.agg #[.int .i64 tag, .int .i64 st, .int .i64 fi, .slice A m c, .int .i64 ac]] w fun e w' => e = .returned (.bool v) ∧ Below w.heap.size w w' := by
  have HP := Lib.hid hp; have HM := Lib.hid hm; have HT := Lib.hid ht; have HV := Lib.hid hv; clear hp hm ht hv
  by_cases ht0 : tag = 0
  · subst ht0
    have HE := Lib.hid (by rw [← HV.out]; unfold sideB; rw [if_pos rfl, HM.out] : v = (decide (st = 0) && decide (fi = 0) && decide (m = 0) && decide (ac = 0)))
    clear HV
    by_cases hh : st = 0
    · subst hh
      by_cases hh : fi = 0
      · subst hh
        by_cases hh : m = 0
        · subst hh
          by_cases hh : ac = 0
          · subst hh
            go_enter Try.func51, Try.ntmps51
            go_wp2
            go_ret
            exact ⟨ret_bool (by rw [HE.out]; rfl), by go_grown⟩
          · have en : (ac == 0) = false := by simp; omega
            go_enter Try.func51, Try.ntmps51
            go_wp2
            go_ret
            exact ⟨ret_bool (by rw [HE.out, decide_eq_false hh]; simp), by go_grown⟩
        · have en : ((m : Int) == 0) = false := by simp; omega
          go_enter Try.func51, Try.ntmps51
          go_wp2
          go_ret
          exact ⟨ret_bool (by rw [HE.out, decide_eq_false hh]; simp), by go_grown⟩
      · have en : (fi == 0) = false := by simp; omega
        go_enter Try.func51, Try.ntmps51
        go_wp2
        go_ret
        exact ⟨ret_bool (by rw [HE.out, decide_eq_false hh]; simp), by go_grown⟩
    · have en : (st == 0) = false := by simp; omega
      go_enter Try.func51, Try.ntmps51
      go_wp2
      go_ret
      exact ⟨ret_bool (by rw [HE.out, decide_eq_false hh]; simp), by go_grown⟩
  have en0 : (tag == 0) = false := by simpa using ht0
  have HE := Lib.hid (by rw [← HV.out, side_eq ht0, HM.out] : v = (headB tag st fi ac m && sentFrom (fun i => l3v fi i) st ps ps 0))
  clear HV
  go_enter Try.func51, Try.ntmps51
  go_wp2
  have X0 := Lib.hid (Blk.new w #[.int .i64 tag, .int .i64 st, .int .i64 fi, .slice A m c, .int .i64 ac] 55)
  have B0 := Lib.hid ((Below.refl w.heap.size w).alloc (Nat.le_refl _) (.cells #[.int .i64 tag, .int .i64 st, .int .i64 fi, .slice A m c, .int .i64 ac] 55))
  go_loopw [3] (fun i wr => ∃ k : Nat, k ≤ m ∧ i = .int .i64 k ∧ Hid (sentFrom (fun i => l3v fi i) st ps ps 0 = sentFrom (fun i => l3v fi i) st ps (ps.drop k) k) ∧ Blk wr w.heap.size #[.int .i64 tag, .int .i64 st, .int .i64 fi, .slice A m c, .int .i64 ac] 55 ∧ Below w.heap.size w wr) (fun i _ => m - (intOf i).toNat)
  case atStart => exact ⟨0, by omega, rfl, Lib.hid rfl, X0.out, B0.out⟩
  case round =>
    obtain ⟨k, hk, rfl, ha, hx, hb⟩ := hrel
    have B := Lib.hid hb
    have X := Lib.hid hx
    clear hb hx
    by_cases hlt : k < m
    · obtain ⟨dd, hd⟩ := fget_of_lt (xs := ps) (k := k) (by rw [HM.out]; exact hlt)
      obtain ⟨b, off, rfl, hbl, ⟨e0, e1, e2, e3, e4, e5, e6⟩⟩ := dats_elem (HP.out.below B.out (Nat.le_refl _)) hd
      have hts := (HT.out dd (List.mem_of_getElem? hd)).2.2.2
      have HA := Lib.hid (ha.out.trans (sent_drop hd))
      obtain ⟨g0, g1, g2, g3, g4, g5, g6⟩ := dd
      change g6.size ≤ 9223372036854775807 at hts
      change Hid (sentFrom (fun i => l3v fi i) st ps ps 0 = ((datB ⟨g0, g1, g2, g3, g4, g5, g6⟩ && (g0 == l3v fi k) && decide (g1 < st) && followB (ps.take k) ⟨g0, g1, g2, g3, g4, g5, g6⟩) && sentFrom (fun i => l3v fi i) st ps (ps.drop (k + 1)) (k + 1))) at HA
      obtain ⟨qq, hq⟩ : ∃ q, l3v fi k = q := ⟨_, rfl⟩
      rw [hq] at HA
      obtain ⟨fv, hf⟩ : ∃ v, followB (ps.take k) ⟨g0, g1, g2, g3, g4, g5, g6⟩ = v := ⟨_, rfl⟩
      rw [hf] at HA
      change World.cell? _ _ = some (.int .i64 g0) at e0
      change World.cell? _ _ = some (.int .i64 g1) at e1
      change World.cell? _ _ = some (.int .i64 g2) at e2
      change World.cell? _ _ = some (.bool g3) at e3
      change World.cell? _ _ = some (.bool g4) at e4
      change World.cell? _ _ = some (.bool g5) at e5
      change World.cell? _ _ = some (.string g6) at e6
      clear ha hd
      have x0 := X.out.get 0 rfl
      have x1 := X.out.get 1 rfl
      have x2 := X.out.get 2 rfl
      have x3 := X.out.get 3 rfl
      have x4 := X.out.get 4 rfl
      have hk0 : (0 : Int) ≤ (k : Int) := by omega
      have hk1 : (k : Int) < (m : Int) := by omega
      have hkd : (k : Int) ≤ (c : Int) := by omega
      have HD := Lib.hid (Blk.new wr #[.int .i64 g0, .int .i64 g1, .int .i64 g2, .bool g3, .bool g4, .bool g5, .string g6] 45)
      have XA := Lib.hid (X.out.alloc (.cells #[.int .i64 g0, .int .i64 g1, .int .i64 g2, .bool g3, .bool g4, .bool g5, .string g6] 45))
      have BA := Lib.hid (B.out.alloc B.out.size (.cells #[.int .i64 g0, .int .i64 g1, .int .i64 g2, .bool g3, .bool g4, .bool g5, .string g6] 45))
      have q0 := HD.out.get 0 rfl
      have q1 := HD.out.get 1 rfl
      have q2 := HD.out.get 2 rfl
      have q3 := HD.out.get 3 rfl
      have q4 := HD.out.get 4 rfl
      have q5 := HD.out.get 5 rfl
      have q6 := HD.out.get 6 rfl
      have y0 := XA.out.get 0 rfl
      have y1 := XA.out.get 1 rfl
      have y2 := XA.out.get 2 rfl
      have y3 := XA.out.get 3 rfl
      have y4 := XA.out.get 4 rfl
      have hl1 := XA.out.lt
      have hl2 := HD.out.lt
      by_cases h1 : datB ⟨g0, g1, g2, g3, g4, g5, g6⟩ = true
      · by_cases h2 : g0 = qq
        · by_cases h3 : g1 < st
          · subst h2
            have e3 : decide (st ≤ g1) = false := decide_eq_false (by omega)
            cases fv with
            | true =>
              have HA2 := Lib.hid (HA.out.trans (by rw [h1, decide_eq_true h3]; simp) : sentFrom (fun i => l3v fi i) st ps ps 0 = sentFrom (fun i => l3v fi i) st ps (ps.drop (k + 1)) (k + 1))
              clear HA
              go_wp2
              refine wp_region_held_drew (S := fun w' => w'.cell? ⟨w.heap.size, 0, none⟩ = some (.int .i64 tag) ∧ w'.cell? ⟨w.heap.size, 1, none⟩ = some (.int .i64 st) ∧ w'.cell? ⟨w.heap.size, 2, none⟩ = some (.int .i64 fi) ∧ w'.cell? ⟨w.heap.size, 3, none⟩ = some (.slice (some ⟨b, off, none⟩) m c) ∧ w'.cell? ⟨w.heap.size, 4, none⟩ = some (.int .i64 ac) ∧ w'.cell? ⟨wr.heap.size, 0, none⟩ = some (.int .i64 g0) ∧ w'.cell? ⟨wr.heap.size, 1, none⟩ = some (.int .i64 g1) ∧ w'.cell? ⟨wr.heap.size, 2, none⟩ = some (.int .i64 g2) ∧ w'.cell? ⟨wr.heap.size, 3, none⟩ = some (.bool g3) ∧ w'.cell? ⟨wr.heap.size, 4, none⟩ = some (.bool g4) ∧ w'.cell? ⟨wr.heap.size, 5, none⟩ = some (.bool g5) ∧ w'.cell? ⟨wr.heap.size, 6, none⟩ = some (.string g6)) (by kernel_rfl) (by first | exact ⟨y0, y1, y2, y3, y4, q0, q1, q2, q3, q4, q5, q6⟩ | exact ⟨z0, z1, z2, z3, z4, r0, r1, r2, r3, r4, r5, r6⟩ | exact ⟨s0, s1, s2, s3, s4, v0, v1, v2, v3, v4, v5, v6⟩ | go_keep) (fun hHeld => ?_)
              refine wpAnyH_take (i := 0) (oi := ⟨some 39, _, _, _, _, _⟩) (v := ?_) rfl (by kernel_rfl) (by kernel_rfl) (by kernel_rfl) (fun _ _ _ h => h) (Or.inl ⟨by kernel_rfl, ?y92⟩) (by assumption) ?_
              case y92 => (intro w hSw; (try dsimp only at hSw); first | (go_simp; done) | (go_simp; with_reducible rfl))
              simp only [Act.put, List.setIfInBounds_toArray, List.set_cons_zero, List.set_cons_succ]
              refine wpAnyH_ready (rs := [1]) (by kernel_rfl) (by simp) ?_
              refine AllReadyH.cons (o := ⟨some 40, _, _, _, _, _⟩) rfl (fun K hK => ?_) AllReadyH.nil
              go_simp
              (go_at_call 37; (with_reducible refine (sdata_eq h1 hts _).mono ?_); rintro e w5 ⟨rfl, b5⟩; have X5 := Lib.hid (XA.out.drew.below b5 XA.out.drew.lt); have D5 := Lib.hid (HD.out.drew.below b5 HD.out.drew.lt); have B5 := Lib.hid (bstep BA.out.drew b5 BA.out.size); have z0 := X5.out.get 0 rfl; have z1 := X5.out.get 1 rfl; have z2 := X5.out.get 2 rfl; have z3 := X5.out.get 3 rfl; have z4 := X5.out.get 4 rfl; have r0 := D5.out.get 0 rfl; have r1 := D5.out.get 1 rfl; have r2 := D5.out.get 2 rfl; have r3 := D5.out.get 3 rfl; have r4 := D5.out.get 4 rfl; have r5 := D5.out.get 5 rfl; have r6 := D5.out.get 6 rfl; clear b5)
              first | go_wp2_with fail | skip
              refine hK.out _ _ (by first | exact ⟨y0, y1, y2, y3, y4, q0, q1, q2, q3, q4, q5, q6⟩ | exact ⟨z0, z1, z2, z3, z4, r0, r1, r2, r3, r4, r5, r6⟩ | exact ⟨s0, s1, s2, s3, s4, v0, v1, v2, v3, v4, v5, v6⟩ | go_keep) (fun hHeld => ?_)
              clear hK K
              try simp only [Act.put, List.setIfInBounds_toArray, List.set_cons_zero, List.set_cons_succ]
              refine wpAnyH_take (i := 2) (oi := ⟨some 41, _, _, _, _, _⟩) (v := ?_) rfl (by kernel_rfl) (by kernel_rfl) (by kernel_rfl) (fun _ _ _ h => h) (Or.inl ⟨by kernel_rfl, ?y93⟩) (by assumption) ?_
              case y93 => (intro w hSw; (try dsimp only at hSw); first | (go_simp; done) | (go_simp; with_reducible rfl))
              simp only [Act.put, List.setIfInBounds_toArray, List.set_cons_zero, List.set_cons_succ]
              refine wpAnyH_take (i := 3) (oi := ⟨some 42, _, _, _, _, _⟩) (v := ?_) rfl (by kernel_rfl) (by kernel_rfl) (by kernel_rfl) (fun _ _ _ h => h) (Or.inl ⟨by kernel_rfl, ?y94⟩) (by assumption) ?_
              case y94 => (intro w hSw; (try dsimp only at hSw); first | (go_simp; done) | (go_simp; with_reducible rfl))
              simp only [Act.put, List.setIfInBounds_toArray, List.set_cons_zero, List.set_cons_succ]
              refine wpAnyH_take (i := 4) (oi := ⟨some 43, _, _, _, _, _⟩) (v := ?_) rfl (by kernel_rfl) (by kernel_rfl) (by kernel_rfl) (fun _ _ _ h => h) (Or.inl ⟨by kernel_rfl, ?y95⟩) (by assumption) ?_
              case y95 => (intro w hSw; (try dsimp only at hSw); first | (go_simp; done) | (go_simp; with_reducible rfl))
              simp only [Act.put, List.setIfInBounds_toArray, List.set_cons_zero, List.set_cons_succ]
              refine wpAnyH_take (i := 5) (oi := ⟨some 44, _, _, _, _, _⟩) (v := ?_) rfl (by kernel_rfl) (by kernel_rfl) (by kernel_rfl) (fun _ _ _ h => h) (Or.inl ⟨by kernel_rfl, ?y96⟩) (by assumption) ?_
              case y96 => (intro w hSw; (try dsimp only at hSw); first | (go_simp; done) | (go_simp; with_reducible rfl))
              simp only [Act.put, List.setIfInBounds_toArray, List.set_cons_zero, List.set_cons_succ]
              refine wpAnyH_take (i := 6) (oi := ⟨some 45, _, _, _, _, _⟩) (v := ?_) rfl (by kernel_rfl) (by kernel_rfl) (by kernel_rfl) (fun _ _ _ h => h) (Or.inl ⟨by kernel_rfl, ?y97⟩) (by assumption) ?_
              case y97 => (intro w hSw; (try dsimp only at hSw); first | (go_simp; done) | (go_simp; with_reducible rfl))
              simp only [Act.put, List.setIfInBounds_toArray, List.set_cons_zero, List.set_cons_succ]
              refine wpAnyH_take (i := 7) (oi := ⟨some 46, _, _, _, _, _⟩) (v := ?_) rfl (by kernel_rfl) (by kernel_rfl) (by kernel_rfl) (fun _ _ _ h => h) (Or.inl ⟨by kernel_rfl, ?y98⟩) (by assumption) ?_
              case y98 => (intro w hSw; (try dsimp only at hSw); first | (go_simp; done) | (go_simp; with_reducible rfl))
              simp only [Act.put, List.setIfInBounds_toArray, List.set_cons_zero, List.set_cons_succ]
              refine wpAnyH_take (i := 8) (oi := ⟨some 47, _, _, _, _, _⟩) (v := ?_) rfl (by kernel_rfl) (by kernel_rfl) (by kernel_rfl) (fun _ _ _ h => h) (Or.inl ⟨by kernel_rfl, ?y99⟩) (by assumption) ?_
              case y99 => (intro w hSw; (try dsimp only at hSw); first | (go_simp; done) | (go_simp; with_reducible rfl))
              simp only [Act.put, List.setIfInBounds_toArray, List.set_cons_zero, List.set_cons_succ]
              refine wpAnyH_ready (rs := [9]) (by kernel_rfl) (by simp) ?_
              refine AllReadyH.cons (o := ⟨some 48, _, _, _, _, _⟩) rfl (fun K hK => ?_) AllReadyH.nil
              go_simp
              (go_at_call 59; (with_reducible refine (l3_eq hq _).mono ?_); rintro e w6 ⟨rfl, rfl⟩)
              first | go_wp2_with fail | skip
              refine hK.out _ _ (by first | exact ⟨y0, y1, y2, y3, y4, q0, q1, q2, q3, q4, q5, q6⟩ | exact ⟨z0, z1, z2, z3, z4, r0, r1, r2, r3, r4, r5, r6⟩ | exact ⟨s0, s1, s2, s3, s4, v0, v1, v2, v3, v4, v5, v6⟩ | go_keep) (fun hHeld => ?_)
              clear hK K
              try simp only [Act.put, List.setIfInBounds_toArray, List.set_cons_zero, List.set_cons_succ]
              refine wpAnyH_take (i := 10) (oi := ⟨some 49, _, _, _, _, _⟩) (v := ?_) rfl (by kernel_rfl) (by kernel_rfl) (by kernel_rfl) (fun _ _ _ h => h) (Or.inl ⟨by kernel_rfl, ?y100⟩) (by assumption) ?_
              case y100 => (intro w hSw; (try dsimp only at hSw); first | (go_simp; done) | (go_simp; with_reducible rfl))
              simp only [Act.put, List.setIfInBounds_toArray, List.set_cons_zero, List.set_cons_succ]
              refine wpAnyH_take (i := 11) (oi := ⟨some 50, _, _, _, _, _⟩) (v := ?_) rfl (by kernel_rfl) (by kernel_rfl) (by kernel_rfl) (fun _ _ _ h => h) (Or.inl ⟨by kernel_rfl, ?y101⟩) (by assumption) ?_
              case y101 => (intro w hSw; (try dsimp only at hSw); first | (go_simp; done) | (go_simp; with_reducible rfl))
              simp only [Act.put, List.setIfInBounds_toArray, List.set_cons_zero, List.set_cons_succ]
              refine wpAnyH_take (i := 12) (oi := ⟨some 51, _, _, _, _, _⟩) (v := ?_) rfl (by kernel_rfl) (by kernel_rfl) (by kernel_rfl) (fun _ _ _ h => h) (Or.inl ⟨by kernel_rfl, ?y102⟩) (by assumption) ?_
              case y102 => (intro w hSw; (try dsimp only at hSw); first | (go_simp; done) | (go_simp; with_reducible rfl))
              simp only [Act.put, List.setIfInBounds_toArray, List.set_cons_zero, List.set_cons_succ]
              refine wpAnyH_take (i := 13) (oi := ⟨some 52, _, _, _, _, _⟩) (v := ?_) rfl (by kernel_rfl) (by kernel_rfl) (by kernel_rfl) (fun _ _ _ h => h) (Or.inl ⟨by kernel_rfl, ?y103⟩) (by assumption) ?_
              case y103 => (intro w hSw; (try dsimp only at hSw); first | (go_simp; done) | (go_simp; with_reducible rfl))
              simp only [Act.put, List.setIfInBounds_toArray, List.set_cons_zero, List.set_cons_succ]
              refine wpAnyH_take (i := 14) (oi := ⟨some 53, _, _, _, _, _⟩) (v := ?_) rfl (by kernel_rfl) (by kernel_rfl) (by kernel_rfl) (fun _ _ _ h => h) (Or.inl ⟨by kernel_rfl, ?y104⟩) (by assumption) ?_
              case y104 => (intro w hSw; (try dsimp only at hSw); first | (go_simp; done) | (go_simp; with_reducible rfl))
              simp only [Act.put, List.setIfInBounds_toArray, List.set_cons_zero, List.set_cons_succ]
              refine wpAnyH_take (i := 15) (oi := ⟨some 54, _, _, _, _, _⟩) (v := ?_) rfl (by kernel_rfl) (by kernel_rfl) (by kernel_rfl) (fun _ _ _ h => h) (Or.inl ⟨by kernel_rfl, ?y105⟩) (by assumption) ?_
              case y105 => (intro w hSw; (try dsimp only at hSw); first | (go_simp; done) | (go_simp; with_reducible rfl))
              simp only [Act.put, List.setIfInBounds_toArray, List.set_cons_zero, List.set_cons_succ]
              refine wpAnyH_take (i := 16) (oi := ⟨some 55, _, _, _, _, _⟩) (v := ?_) rfl (by kernel_rfl) (by kernel_rfl) (by kernel_rfl) (fun _ _ _ h => h) (Or.inl ⟨by kernel_rfl, ?y106⟩) (by assumption) ?_
              case y106 => (intro w hSw; (try dsimp only at hSw); first | (go_simp; done) | (go_simp; with_reducible rfl))
              simp only [Act.put, List.setIfInBounds_toArray, List.set_cons_zero, List.set_cons_succ]
              refine wpAnyH_take (i := 17) (oi := ⟨some 56, _, _, _, _, _⟩) (v := ?_) rfl (by kernel_rfl) (by kernel_rfl) (by kernel_rfl) (fun _ _ _ h => h) (Or.inl ⟨by kernel_rfl, ?y107⟩) (by assumption) ?_
              case y107 => (intro w hSw; (try dsimp only at hSw); first | (go_simp; done) | (go_simp; with_reducible rfl))
              simp only [Act.put, List.setIfInBounds_toArray, List.set_cons_zero, List.set_cons_succ]
              refine wpAnyH_take (i := 18) (oi := ⟨some 57, _, _, _, _, _⟩) (v := ?_) rfl (by kernel_rfl) (by kernel_rfl) (by kernel_rfl) (fun _ _ _ h => h) (Or.inl ⟨by kernel_rfl, ?y108⟩) (by assumption) ?_
              case y108 => (intro w hSw; (try dsimp only at hSw); first | (go_simp; done) | (go_simp; with_reducible rfl))
              simp only [Act.put, List.setIfInBounds_toArray, List.set_cons_zero, List.set_cons_succ]
              refine wpAnyH_take (i := 19) (oi := ⟨some 58, _, _, _, _, _⟩) (v := ?_) rfl (by kernel_rfl) (by kernel_rfl) (by kernel_rfl) (fun _ _ _ h => h) (Or.inl ⟨by kernel_rfl, ?y109⟩) (by assumption) ?_
              case y109 => (intro w hSw; (try dsimp only at hSw); first | (go_simp; done) | (go_simp; with_reducible rfl))
              simp only [Act.put, List.setIfInBounds_toArray, List.set_cons_zero, List.set_cons_succ]
              refine wpAnyH_take (i := 20) (oi := ⟨some 59, _, _, _, _, _⟩) (v := ?_) rfl (by kernel_rfl) (by kernel_rfl) (by kernel_rfl) (fun _ _ _ h => h) (Or.inl ⟨by kernel_rfl, ?y110⟩) (by assumption) ?_
              case y110 => (intro w hSw; (try dsimp only at hSw); first | (go_simp; done) | (go_simp; with_reducible rfl))
              simp only [Act.put, List.setIfInBounds_toArray, List.set_cons_zero, List.set_cons_succ]
              refine wpAnyH_take (i := 21) (oi := ⟨some 60, _, _, _, _, _⟩) (v := ?_) rfl (by kernel_rfl) (by kernel_rfl) (by kernel_rfl) (fun _ _ _ h => h) (Or.inl ⟨by kernel_rfl, ?y111⟩) (by assumption) ?_
              case y111 => (intro w hSw; (try dsimp only at hSw); first | (go_simp; done) | (go_simp; with_reducible rfl))
              simp only [Act.put, List.setIfInBounds_toArray, List.set_cons_zero, List.set_cons_succ]
              refine wpAnyH_take (i := 22) (oi := ⟨some 61, _, _, _, _, _⟩) (v := ?_) rfl (by kernel_rfl) (by kernel_rfl) (by kernel_rfl) (fun _ _ _ h => h) (Or.inl ⟨by kernel_rfl, ?y112⟩) (by assumption) ?_
              case y112 => (intro w hSw; (try dsimp only at hSw); first | (go_simp; done) | (go_simp; with_reducible rfl))
              simp only [Act.put, List.setIfInBounds_toArray, List.set_cons_zero, List.set_cons_succ]
              refine wpAnyH_take (i := 23) (oi := ⟨some 62, _, _, _, _, _⟩) (v := ?_) rfl (by kernel_rfl) (by kernel_rfl) (by kernel_rfl) (fun _ _ _ h => h) (Or.inl ⟨by kernel_rfl, ?y113⟩) (by assumption) ?_
              case y113 => (intro w hSw; (try dsimp only at hSw); first | (go_simp; done) | (go_simp; with_reducible rfl))
              simp only [Act.put, List.setIfInBounds_toArray, List.set_cons_zero, List.set_cons_succ]
              refine wpAnyH_take (i := 24) (oi := ⟨some 63, _, _, _, _, _⟩) (v := ?_) rfl (by kernel_rfl) (by kernel_rfl) (by kernel_rfl) (fun _ _ _ h => h) (Or.inl ⟨by kernel_rfl, ?y114⟩) (by assumption) ?_
              case y114 => (intro w hSw; (try dsimp only at hSw); first | (go_simp; done) | (go_simp; with_reducible rfl))
              simp only [Act.put, List.setIfInBounds_toArray, List.set_cons_zero, List.set_cons_succ]
              refine wpAnyH_ready (rs := [25]) (by kernel_rfl) (by simp) ?_
              refine AllReadyH.cons (o := ⟨some 64, _, _, _, _, _⟩) rfl (fun K hK => ?_) AllReadyH.nil
              go_simp
              (go_at_call 62; (with_reducible refine (smay_any _ _ _ _ hf _ ((HP.out.dat_take k).below B5.out (Nat.le_refl _) |>.more B5.out.size) (by rw [List.length_take, HM.out]; omega) (by omega)).mono ?_); rintro e w7 ⟨rfl, b7⟩; have X7 := Lib.hid (X5.out.below b7 X5.out.lt); have D7 := Lib.hid (D5.out.below b7 D5.out.lt); have B7 := Lib.hid (bstep B5.out b7 B5.out.size); have s0 := X7.out.get 0 rfl; have s1 := X7.out.get 1 rfl; have s2 := X7.out.get 2 rfl; have s3 := X7.out.get 3 rfl; have s4 := X7.out.get 4 rfl; have v0 := D7.out.get 0 rfl; have v1 := D7.out.get 1 rfl; have v2 := D7.out.get 2 rfl; have v3 := D7.out.get 3 rfl; have v4 := D7.out.get 4 rfl; have v5 := D7.out.get 5 rfl; have v6 := D7.out.get 6 rfl; clear b7)
              first | go_wp2_with fail | skip
              refine hK.out _ _ (by first | exact ⟨y0, y1, y2, y3, y4, q0, q1, q2, q3, q4, q5, q6⟩ | exact ⟨z0, z1, z2, z3, z4, r0, r1, r2, r3, r4, r5, r6⟩ | exact ⟨s0, s1, s2, s3, s4, v0, v1, v2, v3, v4, v5, v6⟩ | go_keep) (fun hHeld => ?_)
              clear hK K
              try simp only [Act.put, List.setIfInBounds_toArray, List.set_cons_zero, List.set_cons_succ]
              refine wpAnyH_take (i := 26) (oi := ⟨some 65, _, _, _, _, _⟩) (v := ?_) rfl (by kernel_rfl) (by kernel_rfl) (by kernel_rfl) (fun _ _ _ h => h) (Or.inl ⟨by kernel_rfl, ?y115⟩) (by assumption) ?_
              case y115 => (intro w hSw; (try dsimp only at hSw); first | (go_simp; done) | (go_simp; with_reducible rfl))
              simp only [Act.put, List.setIfInBounds_toArray, List.set_cons_zero, List.set_cons_succ]
              refine wpAnyH_take (i := 27) (oi := ⟨some 66, _, _, _, _, _⟩) (v := ?_) rfl (by kernel_rfl) (by kernel_rfl) (by kernel_rfl) (fun _ _ _ h => h) (Or.inl ⟨by kernel_rfl, ?y116⟩) (by assumption) ?_
              case y116 => (intro w hSw; (try dsimp only at hSw); first | (go_simp; done) | (go_simp; with_reducible rfl))
              simp only [Act.put, List.setIfInBounds_toArray, List.set_cons_zero, List.set_cons_succ]
              refine wpAnyH_done (by kernel_rfl) ?_ _
              go_wp2
              go_roundw
              case rel => exact ⟨k + 1, by omega, by go_num, HA2, X7.out, B7.out⟩
              case measure => simp [intOf]; omega
            | false =>
              have HA2 := Lib.hid (HA.out.trans (by simp) : sentFrom (fun i => l3v fi i) st ps ps 0 = false)
              clear HA
              go_wp2
              refine wp_region_held_drew (S := fun w' => w'.cell? ⟨w.heap.size, 0, none⟩ = some (.int .i64 tag) ∧ w'.cell? ⟨w.heap.size, 1, none⟩ = some (.int .i64 st) ∧ w'.cell? ⟨w.heap.size, 2, none⟩ = some (.int .i64 fi) ∧ w'.cell? ⟨w.heap.size, 3, none⟩ = some (.slice (some ⟨b, off, none⟩) m c) ∧ w'.cell? ⟨w.heap.size, 4, none⟩ = some (.int .i64 ac) ∧ w'.cell? ⟨wr.heap.size, 0, none⟩ = some (.int .i64 g0) ∧ w'.cell? ⟨wr.heap.size, 1, none⟩ = some (.int .i64 g1) ∧ w'.cell? ⟨wr.heap.size, 2, none⟩ = some (.int .i64 g2) ∧ w'.cell? ⟨wr.heap.size, 3, none⟩ = some (.bool g3) ∧ w'.cell? ⟨wr.heap.size, 4, none⟩ = some (.bool g4) ∧ w'.cell? ⟨wr.heap.size, 5, none⟩ = some (.bool g5) ∧ w'.cell? ⟨wr.heap.size, 6, none⟩ = some (.string g6)) (by kernel_rfl) (by first | exact ⟨y0, y1, y2, y3, y4, q0, q1, q2, q3, q4, q5, q6⟩ | exact ⟨z0, z1, z2, z3, z4, r0, r1, r2, r3, r4, r5, r6⟩ | exact ⟨s0, s1, s2, s3, s4, v0, v1, v2, v3, v4, v5, v6⟩ | go_keep) (fun hHeld => ?_)
              refine wpAnyH_take (i := 0) (oi := ⟨some 39, _, _, _, _, _⟩) (v := ?_) rfl (by kernel_rfl) (by kernel_rfl) (by kernel_rfl) (fun _ _ _ h => h) (Or.inl ⟨by kernel_rfl, ?y117⟩) (by assumption) ?_
              case y117 => (intro w hSw; (try dsimp only at hSw); first | (go_simp; done) | (go_simp; with_reducible rfl))
              simp only [Act.put, List.setIfInBounds_toArray, List.set_cons_zero, List.set_cons_succ]
              refine wpAnyH_ready (rs := [1]) (by kernel_rfl) (by simp) ?_
              refine AllReadyH.cons (o := ⟨some 40, _, _, _, _, _⟩) rfl (fun K hK => ?_) AllReadyH.nil
              go_simp
              (go_at_call 37; (with_reducible refine (sdata_eq h1 hts _).mono ?_); rintro e w5 ⟨rfl, b5⟩; have X5 := Lib.hid (XA.out.drew.below b5 XA.out.drew.lt); have D5 := Lib.hid (HD.out.drew.below b5 HD.out.drew.lt); have B5 := Lib.hid (bstep BA.out.drew b5 BA.out.size); have z0 := X5.out.get 0 rfl; have z1 := X5.out.get 1 rfl; have z2 := X5.out.get 2 rfl; have z3 := X5.out.get 3 rfl; have z4 := X5.out.get 4 rfl; have r0 := D5.out.get 0 rfl; have r1 := D5.out.get 1 rfl; have r2 := D5.out.get 2 rfl; have r3 := D5.out.get 3 rfl; have r4 := D5.out.get 4 rfl; have r5 := D5.out.get 5 rfl; have r6 := D5.out.get 6 rfl; clear b5)
              first | go_wp2_with fail | skip
              refine hK.out _ _ (by first | exact ⟨y0, y1, y2, y3, y4, q0, q1, q2, q3, q4, q5, q6⟩ | exact ⟨z0, z1, z2, z3, z4, r0, r1, r2, r3, r4, r5, r6⟩ | exact ⟨s0, s1, s2, s3, s4, v0, v1, v2, v3, v4, v5, v6⟩ | go_keep) (fun hHeld => ?_)
              clear hK K
              try simp only [Act.put, List.setIfInBounds_toArray, List.set_cons_zero, List.set_cons_succ]
              refine wpAnyH_take (i := 2) (oi := ⟨some 41, _, _, _, _, _⟩) (v := ?_) rfl (by kernel_rfl) (by kernel_rfl) (by kernel_rfl) (fun _ _ _ h => h) (Or.inl ⟨by kernel_rfl, ?y118⟩) (by assumption) ?_
              case y118 => (intro w hSw; (try dsimp only at hSw); first | (go_simp; done) | (go_simp; with_reducible rfl))
              simp only [Act.put, List.setIfInBounds_toArray, List.set_cons_zero, List.set_cons_succ]
              refine wpAnyH_take (i := 3) (oi := ⟨some 42, _, _, _, _, _⟩) (v := ?_) rfl (by kernel_rfl) (by kernel_rfl) (by kernel_rfl) (fun _ _ _ h => h) (Or.inl ⟨by kernel_rfl, ?y119⟩) (by assumption) ?_
              case y119 => (intro w hSw; (try dsimp only at hSw); first | (go_simp; done) | (go_simp; with_reducible rfl))
              simp only [Act.put, List.setIfInBounds_toArray, List.set_cons_zero, List.set_cons_succ]
              refine wpAnyH_take (i := 4) (oi := ⟨some 43, _, _, _, _, _⟩) (v := ?_) rfl (by kernel_rfl) (by kernel_rfl) (by kernel_rfl) (fun _ _ _ h => h) (Or.inl ⟨by kernel_rfl, ?y120⟩) (by assumption) ?_
              case y120 => (intro w hSw; (try dsimp only at hSw); first | (go_simp; done) | (go_simp; with_reducible rfl))
              simp only [Act.put, List.setIfInBounds_toArray, List.set_cons_zero, List.set_cons_succ]
              refine wpAnyH_take (i := 5) (oi := ⟨some 44, _, _, _, _, _⟩) (v := ?_) rfl (by kernel_rfl) (by kernel_rfl) (by kernel_rfl) (fun _ _ _ h => h) (Or.inl ⟨by kernel_rfl, ?y121⟩) (by assumption) ?_
              case y121 => (intro w hSw; (try dsimp only at hSw); first | (go_simp; done) | (go_simp; with_reducible rfl))
              simp only [Act.put, List.setIfInBounds_toArray, List.set_cons_zero, List.set_cons_succ]
              refine wpAnyH_take (i := 6) (oi := ⟨some 45, _, _, _, _, _⟩) (v := ?_) rfl (by kernel_rfl) (by kernel_rfl) (by kernel_rfl) (fun _ _ _ h => h) (Or.inl ⟨by kernel_rfl, ?y122⟩) (by assumption) ?_
              case y122 => (intro w hSw; (try dsimp only at hSw); first | (go_simp; done) | (go_simp; with_reducible rfl))
              simp only [Act.put, List.setIfInBounds_toArray, List.set_cons_zero, List.set_cons_succ]
              refine wpAnyH_take (i := 7) (oi := ⟨some 46, _, _, _, _, _⟩) (v := ?_) rfl (by kernel_rfl) (by kernel_rfl) (by kernel_rfl) (fun _ _ _ h => h) (Or.inl ⟨by kernel_rfl, ?y123⟩) (by assumption) ?_
              case y123 => (intro w hSw; (try dsimp only at hSw); first | (go_simp; done) | (go_simp; with_reducible rfl))
              simp only [Act.put, List.setIfInBounds_toArray, List.set_cons_zero, List.set_cons_succ]
              refine wpAnyH_take (i := 8) (oi := ⟨some 47, _, _, _, _, _⟩) (v := ?_) rfl (by kernel_rfl) (by kernel_rfl) (by kernel_rfl) (fun _ _ _ h => h) (Or.inl ⟨by kernel_rfl, ?y124⟩) (by assumption) ?_
              case y124 => (intro w hSw; (try dsimp only at hSw); first | (go_simp; done) | (go_simp; with_reducible rfl))
              simp only [Act.put, List.setIfInBounds_toArray, List.set_cons_zero, List.set_cons_succ]
              refine wpAnyH_ready (rs := [9]) (by kernel_rfl) (by simp) ?_
              refine AllReadyH.cons (o := ⟨some 48, _, _, _, _, _⟩) rfl (fun K hK => ?_) AllReadyH.nil
              go_simp
              (go_at_call 59; (with_reducible refine (l3_eq hq _).mono ?_); rintro e w6 ⟨rfl, rfl⟩)
              first | go_wp2_with fail | skip
              refine hK.out _ _ (by first | exact ⟨y0, y1, y2, y3, y4, q0, q1, q2, q3, q4, q5, q6⟩ | exact ⟨z0, z1, z2, z3, z4, r0, r1, r2, r3, r4, r5, r6⟩ | exact ⟨s0, s1, s2, s3, s4, v0, v1, v2, v3, v4, v5, v6⟩ | go_keep) (fun hHeld => ?_)
              clear hK K
              try simp only [Act.put, List.setIfInBounds_toArray, List.set_cons_zero, List.set_cons_succ]
              refine wpAnyH_take (i := 10) (oi := ⟨some 49, _, _, _, _, _⟩) (v := ?_) rfl (by kernel_rfl) (by kernel_rfl) (by kernel_rfl) (fun _ _ _ h => h) (Or.inl ⟨by kernel_rfl, ?y125⟩) (by assumption) ?_
              case y125 => (intro w hSw; (try dsimp only at hSw); first | (go_simp; done) | (go_simp; with_reducible rfl))
              simp only [Act.put, List.setIfInBounds_toArray, List.set_cons_zero, List.set_cons_succ]
              refine wpAnyH_take (i := 11) (oi := ⟨some 50, _, _, _, _, _⟩) (v := ?_) rfl (by kernel_rfl) (by kernel_rfl) (by kernel_rfl) (fun _ _ _ h => h) (Or.inl ⟨by kernel_rfl, ?y126⟩) (by assumption) ?_
              case y126 => (intro w hSw; (try dsimp only at hSw); first | (go_simp; done) | (go_simp; with_reducible rfl))
              simp only [Act.put, List.setIfInBounds_toArray, List.set_cons_zero, List.set_cons_succ]
              refine wpAnyH_take (i := 12) (oi := ⟨some 51, _, _, _, _, _⟩) (v := ?_) rfl (by kernel_rfl) (by kernel_rfl) (by kernel_rfl) (fun _ _ _ h => h) (Or.inl ⟨by kernel_rfl, ?y127⟩) (by assumption) ?_
              case y127 => (intro w hSw; (try dsimp only at hSw); first | (go_simp; done) | (go_simp; with_reducible rfl))
              simp only [Act.put, List.setIfInBounds_toArray, List.set_cons_zero, List.set_cons_succ]
              refine wpAnyH_take (i := 13) (oi := ⟨some 52, _, _, _, _, _⟩) (v := ?_) rfl (by kernel_rfl) (by kernel_rfl) (by kernel_rfl) (fun _ _ _ h => h) (Or.inl ⟨by kernel_rfl, ?y128⟩) (by assumption) ?_
              case y128 => (intro w hSw; (try dsimp only at hSw); first | (go_simp; done) | (go_simp; with_reducible rfl))
              simp only [Act.put, List.setIfInBounds_toArray, List.set_cons_zero, List.set_cons_succ]
              refine wpAnyH_take (i := 14) (oi := ⟨some 53, _, _, _, _, _⟩) (v := ?_) rfl (by kernel_rfl) (by kernel_rfl) (by kernel_rfl) (fun _ _ _ h => h) (Or.inl ⟨by kernel_rfl, ?y129⟩) (by assumption) ?_
              case y129 => (intro w hSw; (try dsimp only at hSw); first | (go_simp; done) | (go_simp; with_reducible rfl))
              simp only [Act.put, List.setIfInBounds_toArray, List.set_cons_zero, List.set_cons_succ]
              refine wpAnyH_take (i := 15) (oi := ⟨some 54, _, _, _, _, _⟩) (v := ?_) rfl (by kernel_rfl) (by kernel_rfl) (by kernel_rfl) (fun _ _ _ h => h) (Or.inl ⟨by kernel_rfl, ?y130⟩) (by assumption) ?_
              case y130 => (intro w hSw; (try dsimp only at hSw); first | (go_simp; done) | (go_simp; with_reducible rfl))
              simp only [Act.put, List.setIfInBounds_toArray, List.set_cons_zero, List.set_cons_succ]
              refine wpAnyH_take (i := 16) (oi := ⟨some 55, _, _, _, _, _⟩) (v := ?_) rfl (by kernel_rfl) (by kernel_rfl) (by kernel_rfl) (fun _ _ _ h => h) (Or.inl ⟨by kernel_rfl, ?y131⟩) (by assumption) ?_
              case y131 => (intro w hSw; (try dsimp only at hSw); first | (go_simp; done) | (go_simp; with_reducible rfl))
              simp only [Act.put, List.setIfInBounds_toArray, List.set_cons_zero, List.set_cons_succ]
              refine wpAnyH_take (i := 17) (oi := ⟨some 56, _, _, _, _, _⟩) (v := ?_) rfl (by kernel_rfl) (by kernel_rfl) (by kernel_rfl) (fun _ _ _ h => h) (Or.inl ⟨by kernel_rfl, ?y132⟩) (by assumption) ?_
              case y132 => (intro w hSw; (try dsimp only at hSw); first | (go_simp; done) | (go_simp; with_reducible rfl))
              simp only [Act.put, List.setIfInBounds_toArray, List.set_cons_zero, List.set_cons_succ]
              refine wpAnyH_take (i := 18) (oi := ⟨some 57, _, _, _, _, _⟩) (v := ?_) rfl (by kernel_rfl) (by kernel_rfl) (by kernel_rfl) (fun _ _ _ h => h) (Or.inl ⟨by kernel_rfl, ?y133⟩) (by assumption) ?_
              case y133 => (intro w hSw; (try dsimp only at hSw); first | (go_simp; done) | (go_simp; with_reducible rfl))
              simp only [Act.put, List.setIfInBounds_toArray, List.set_cons_zero, List.set_cons_succ]
              refine wpAnyH_take (i := 19) (oi := ⟨some 58, _, _, _, _, _⟩) (v := ?_) rfl (by kernel_rfl) (by kernel_rfl) (by kernel_rfl) (fun _ _ _ h => h) (Or.inl ⟨by kernel_rfl, ?y134⟩) (by assumption) ?_
              case y134 => (intro w hSw; (try dsimp only at hSw); first | (go_simp; done) | (go_simp; with_reducible rfl))
              simp only [Act.put, List.setIfInBounds_toArray, List.set_cons_zero, List.set_cons_succ]
              refine wpAnyH_take (i := 20) (oi := ⟨some 59, _, _, _, _, _⟩) (v := ?_) rfl (by kernel_rfl) (by kernel_rfl) (by kernel_rfl) (fun _ _ _ h => h) (Or.inl ⟨by kernel_rfl, ?y135⟩) (by assumption) ?_
              case y135 => (intro w hSw; (try dsimp only at hSw); first | (go_simp; done) | (go_simp; with_reducible rfl))
              simp only [Act.put, List.setIfInBounds_toArray, List.set_cons_zero, List.set_cons_succ]
              refine wpAnyH_take (i := 21) (oi := ⟨some 60, _, _, _, _, _⟩) (v := ?_) rfl (by kernel_rfl) (by kernel_rfl) (by kernel_rfl) (fun _ _ _ h => h) (Or.inl ⟨by kernel_rfl, ?y136⟩) (by assumption) ?_
              case y136 => (intro w hSw; (try dsimp only at hSw); first | (go_simp; done) | (go_simp; with_reducible rfl))
              simp only [Act.put, List.setIfInBounds_toArray, List.set_cons_zero, List.set_cons_succ]
              refine wpAnyH_take (i := 22) (oi := ⟨some 61, _, _, _, _, _⟩) (v := ?_) rfl (by kernel_rfl) (by kernel_rfl) (by kernel_rfl) (fun _ _ _ h => h) (Or.inl ⟨by kernel_rfl, ?y137⟩) (by assumption) ?_
              case y137 => (intro w hSw; (try dsimp only at hSw); first | (go_simp; done) | (go_simp; with_reducible rfl))
              simp only [Act.put, List.setIfInBounds_toArray, List.set_cons_zero, List.set_cons_succ]
              refine wpAnyH_take (i := 23) (oi := ⟨some 62, _, _, _, _, _⟩) (v := ?_) rfl (by kernel_rfl) (by kernel_rfl) (by kernel_rfl) (fun _ _ _ h => h) (Or.inl ⟨by kernel_rfl, ?y138⟩) (by assumption) ?_
              case y138 => (intro w hSw; (try dsimp only at hSw); first | (go_simp; done) | (go_simp; with_reducible rfl))
              simp only [Act.put, List.setIfInBounds_toArray, List.set_cons_zero, List.set_cons_succ]
              refine wpAnyH_take (i := 24) (oi := ⟨some 63, _, _, _, _, _⟩) (v := ?_) rfl (by kernel_rfl) (by kernel_rfl) (by kernel_rfl) (fun _ _ _ h => h) (Or.inl ⟨by kernel_rfl, ?y139⟩) (by assumption) ?_
              case y139 => (intro w hSw; (try dsimp only at hSw); first | (go_simp; done) | (go_simp; with_reducible rfl))
              simp only [Act.put, List.setIfInBounds_toArray, List.set_cons_zero, List.set_cons_succ]
              refine wpAnyH_ready (rs := [25]) (by kernel_rfl) (by simp) ?_
              refine AllReadyH.cons (o := ⟨some 64, _, _, _, _, _⟩) rfl (fun K hK => ?_) AllReadyH.nil
              go_simp
              (go_at_call 62; (with_reducible refine (smay_any _ _ _ _ hf _ ((HP.out.dat_take k).below B5.out (Nat.le_refl _) |>.more B5.out.size) (by rw [List.length_take, HM.out]; omega) (by omega)).mono ?_); rintro e w7 ⟨rfl, b7⟩; have X7 := Lib.hid (X5.out.below b7 X5.out.lt); have D7 := Lib.hid (D5.out.below b7 D5.out.lt); have B7 := Lib.hid (bstep B5.out b7 B5.out.size); have s0 := X7.out.get 0 rfl; have s1 := X7.out.get 1 rfl; have s2 := X7.out.get 2 rfl; have s3 := X7.out.get 3 rfl; have s4 := X7.out.get 4 rfl; have v0 := D7.out.get 0 rfl; have v1 := D7.out.get 1 rfl; have v2 := D7.out.get 2 rfl; have v3 := D7.out.get 3 rfl; have v4 := D7.out.get 4 rfl; have v5 := D7.out.get 5 rfl; have v6 := D7.out.get 6 rfl; clear b7)
              first | go_wp2_with fail | skip
              refine hK.out _ _ (by first | exact ⟨y0, y1, y2, y3, y4, q0, q1, q2, q3, q4, q5, q6⟩ | exact ⟨z0, z1, z2, z3, z4, r0, r1, r2, r3, r4, r5, r6⟩ | exact ⟨s0, s1, s2, s3, s4, v0, v1, v2, v3, v4, v5, v6⟩ | go_keep) (fun hHeld => ?_)
              clear hK K
              try simp only [Act.put, List.setIfInBounds_toArray, List.set_cons_zero, List.set_cons_succ]
              refine wpAnyH_take (i := 26) (oi := ⟨some 65, _, _, _, _, _⟩) (v := ?_) rfl (by kernel_rfl) (by kernel_rfl) (by kernel_rfl) (fun _ _ _ h => h) (Or.inl ⟨by kernel_rfl, ?y140⟩) (by assumption) ?_
              case y140 => (intro w hSw; (try dsimp only at hSw); first | (go_simp; done) | (go_simp; with_reducible rfl))
              simp only [Act.put, List.setIfInBounds_toArray, List.set_cons_zero, List.set_cons_succ]
              refine wpAnyH_take (i := 27) (oi := ⟨some 66, _, _, _, _, _⟩) (v := ?_) rfl (by kernel_rfl) (by kernel_rfl) (by kernel_rfl) (fun _ _ _ h => h) (Or.inl ⟨by kernel_rfl, ?y141⟩) (by assumption) ?_
              case y141 => (intro w hSw; (try dsimp only at hSw); first | (go_simp; done) | (go_simp; with_reducible rfl))
              simp only [Act.put, List.setIfInBounds_toArray, List.set_cons_zero, List.set_cons_succ]
              refine wpAnyH_done (by kernel_rfl) ?_ _
              go_wp2
              go_ret
              exact ⟨ret_bool (by rw [HE.out, HA2.out] <;> simp), B7.out⟩
          · subst h2
            have e3 : decide (st ≤ g1) = true := decide_eq_true (by omega)
            have HA2 := Lib.hid (HA.out.trans (by rw [decide_eq_false h3]; simp) : sentFrom (fun i => l3v fi i) st ps ps 0 = false)
            clear HA
            go_wp2
            refine wp_region_held_drew (S := fun w' => w'.cell? ⟨w.heap.size, 0, none⟩ = some (.int .i64 tag) ∧ w'.cell? ⟨w.heap.size, 1, none⟩ = some (.int .i64 st) ∧ w'.cell? ⟨w.heap.size, 2, none⟩ = some (.int .i64 fi) ∧ w'.cell? ⟨w.heap.size, 3, none⟩ = some (.slice (some ⟨b, off, none⟩) m c) ∧ w'.cell? ⟨w.heap.size, 4, none⟩ = some (.int .i64 ac) ∧ w'.cell? ⟨wr.heap.size, 0, none⟩ = some (.int .i64 g0) ∧ w'.cell? ⟨wr.heap.size, 1, none⟩ = some (.int .i64 g1) ∧ w'.cell? ⟨wr.heap.size, 2, none⟩ = some (.int .i64 g2) ∧ w'.cell? ⟨wr.heap.size, 3, none⟩ = some (.bool g3) ∧ w'.cell? ⟨wr.heap.size, 4, none⟩ = some (.bool g4) ∧ w'.cell? ⟨wr.heap.size, 5, none⟩ = some (.bool g5) ∧ w'.cell? ⟨wr.heap.size, 6, none⟩ = some (.string g6)) (by kernel_rfl) (by first | exact ⟨y0, y1, y2, y3, y4, q0, q1, q2, q3, q4, q5, q6⟩ | exact ⟨z0, z1, z2, z3, z4, r0, r1, r2, r3, r4, r5, r6⟩ | exact ⟨s0, s1, s2, s3, s4, v0, v1, v2, v3, v4, v5, v6⟩ | go_keep) (fun hHeld => ?_)
            refine wpAnyH_take (i := 0) (oi := ⟨some 39, _, _, _, _, _⟩) (v := ?_) rfl (by kernel_rfl) (by kernel_rfl) (by kernel_rfl) (fun _ _ _ h => h) (Or.inl ⟨by kernel_rfl, ?y142⟩) (by assumption) ?_
            case y142 => (intro w hSw; (try dsimp only at hSw); first | (go_simp; done) | (go_simp; with_reducible rfl))
            simp only [Act.put, List.setIfInBounds_toArray, List.set_cons_zero, List.set_cons_succ]
            refine wpAnyH_ready (rs := [1]) (by kernel_rfl) (by simp) ?_
            refine AllReadyH.cons (o := ⟨some 40, _, _, _, _, _⟩) rfl (fun K hK => ?_) AllReadyH.nil
            go_simp
            (go_at_call 37; (with_reducible refine (sdata_eq h1 hts _).mono ?_); rintro e w5 ⟨rfl, b5⟩; have X5 := Lib.hid (XA.out.drew.below b5 XA.out.drew.lt); have D5 := Lib.hid (HD.out.drew.below b5 HD.out.drew.lt); have B5 := Lib.hid (bstep BA.out.drew b5 BA.out.size); have z0 := X5.out.get 0 rfl; have z1 := X5.out.get 1 rfl; have z2 := X5.out.get 2 rfl; have z3 := X5.out.get 3 rfl; have z4 := X5.out.get 4 rfl; have r0 := D5.out.get 0 rfl; have r1 := D5.out.get 1 rfl; have r2 := D5.out.get 2 rfl; have r3 := D5.out.get 3 rfl; have r4 := D5.out.get 4 rfl; have r5 := D5.out.get 5 rfl; have r6 := D5.out.get 6 rfl; clear b5)
            first | go_wp2_with fail | skip
            refine hK.out _ _ (by first | exact ⟨y0, y1, y2, y3, y4, q0, q1, q2, q3, q4, q5, q6⟩ | exact ⟨z0, z1, z2, z3, z4, r0, r1, r2, r3, r4, r5, r6⟩ | exact ⟨s0, s1, s2, s3, s4, v0, v1, v2, v3, v4, v5, v6⟩ | go_keep) (fun hHeld => ?_)
            clear hK K
            try simp only [Act.put, List.setIfInBounds_toArray, List.set_cons_zero, List.set_cons_succ]
            refine wpAnyH_take (i := 2) (oi := ⟨some 41, _, _, _, _, _⟩) (v := ?_) rfl (by kernel_rfl) (by kernel_rfl) (by kernel_rfl) (fun _ _ _ h => h) (Or.inl ⟨by kernel_rfl, ?y143⟩) (by assumption) ?_
            case y143 => (intro w hSw; (try dsimp only at hSw); first | (go_simp; done) | (go_simp; with_reducible rfl))
            simp only [Act.put, List.setIfInBounds_toArray, List.set_cons_zero, List.set_cons_succ]
            refine wpAnyH_take (i := 3) (oi := ⟨some 42, _, _, _, _, _⟩) (v := ?_) rfl (by kernel_rfl) (by kernel_rfl) (by kernel_rfl) (fun _ _ _ h => h) (Or.inl ⟨by kernel_rfl, ?y144⟩) (by assumption) ?_
            case y144 => (intro w hSw; (try dsimp only at hSw); first | (go_simp; done) | (go_simp; with_reducible rfl))
            simp only [Act.put, List.setIfInBounds_toArray, List.set_cons_zero, List.set_cons_succ]
            refine wpAnyH_take (i := 4) (oi := ⟨some 43, _, _, _, _, _⟩) (v := ?_) rfl (by kernel_rfl) (by kernel_rfl) (by kernel_rfl) (fun _ _ _ h => h) (Or.inl ⟨by kernel_rfl, ?y145⟩) (by assumption) ?_
            case y145 => (intro w hSw; (try dsimp only at hSw); first | (go_simp; done) | (go_simp; with_reducible rfl))
            simp only [Act.put, List.setIfInBounds_toArray, List.set_cons_zero, List.set_cons_succ]
            refine wpAnyH_take (i := 5) (oi := ⟨some 44, _, _, _, _, _⟩) (v := ?_) rfl (by kernel_rfl) (by kernel_rfl) (by kernel_rfl) (fun _ _ _ h => h) (Or.inl ⟨by kernel_rfl, ?y146⟩) (by assumption) ?_
            case y146 => (intro w hSw; (try dsimp only at hSw); first | (go_simp; done) | (go_simp; with_reducible rfl))
            simp only [Act.put, List.setIfInBounds_toArray, List.set_cons_zero, List.set_cons_succ]
            refine wpAnyH_take (i := 6) (oi := ⟨some 45, _, _, _, _, _⟩) (v := ?_) rfl (by kernel_rfl) (by kernel_rfl) (by kernel_rfl) (fun _ _ _ h => h) (Or.inl ⟨by kernel_rfl, ?y147⟩) (by assumption) ?_
            case y147 => (intro w hSw; (try dsimp only at hSw); first | (go_simp; done) | (go_simp; with_reducible rfl))
            simp only [Act.put, List.setIfInBounds_toArray, List.set_cons_zero, List.set_cons_succ]
            refine wpAnyH_take (i := 7) (oi := ⟨some 46, _, _, _, _, _⟩) (v := ?_) rfl (by kernel_rfl) (by kernel_rfl) (by kernel_rfl) (fun _ _ _ h => h) (Or.inl ⟨by kernel_rfl, ?y148⟩) (by assumption) ?_
            case y148 => (intro w hSw; (try dsimp only at hSw); first | (go_simp; done) | (go_simp; with_reducible rfl))
            simp only [Act.put, List.setIfInBounds_toArray, List.set_cons_zero, List.set_cons_succ]
            refine wpAnyH_take (i := 8) (oi := ⟨some 47, _, _, _, _, _⟩) (v := ?_) rfl (by kernel_rfl) (by kernel_rfl) (by kernel_rfl) (fun _ _ _ h => h) (Or.inl ⟨by kernel_rfl, ?y149⟩) (by assumption) ?_
            case y149 => (intro w hSw; (try dsimp only at hSw); first | (go_simp; done) | (go_simp; with_reducible rfl))
            simp only [Act.put, List.setIfInBounds_toArray, List.set_cons_zero, List.set_cons_succ]
            refine wpAnyH_ready (rs := [9]) (by kernel_rfl) (by simp) ?_
            refine AllReadyH.cons (o := ⟨some 48, _, _, _, _, _⟩) rfl (fun K hK => ?_) AllReadyH.nil
            go_simp
            (go_at_call 59; (with_reducible refine (l3_eq hq _).mono ?_); rintro e w6 ⟨rfl, rfl⟩)
            first | go_wp2_with fail | skip
            refine hK.out _ _ (by first | exact ⟨y0, y1, y2, y3, y4, q0, q1, q2, q3, q4, q5, q6⟩ | exact ⟨z0, z1, z2, z3, z4, r0, r1, r2, r3, r4, r5, r6⟩ | exact ⟨s0, s1, s2, s3, s4, v0, v1, v2, v3, v4, v5, v6⟩ | go_keep) (fun hHeld => ?_)
            clear hK K
            try simp only [Act.put, List.setIfInBounds_toArray, List.set_cons_zero, List.set_cons_succ]
            refine wpAnyH_take (i := 10) (oi := ⟨some 49, _, _, _, _, _⟩) (v := ?_) rfl (by kernel_rfl) (by kernel_rfl) (by kernel_rfl) (fun _ _ _ h => h) (Or.inl ⟨by kernel_rfl, ?y150⟩) (by assumption) ?_
            case y150 => (intro w hSw; (try dsimp only at hSw); first | (go_simp; done) | (go_simp; with_reducible rfl))
            simp only [Act.put, List.setIfInBounds_toArray, List.set_cons_zero, List.set_cons_succ]
            refine wpAnyH_take (i := 11) (oi := ⟨some 50, _, _, _, _, _⟩) (v := ?_) rfl (by kernel_rfl) (by kernel_rfl) (by kernel_rfl) (fun _ _ _ h => h) (Or.inl ⟨by kernel_rfl, ?y151⟩) (by assumption) ?_
            case y151 => (intro w hSw; (try dsimp only at hSw); first | (go_simp; done) | (go_simp; with_reducible rfl))
            simp only [Act.put, List.setIfInBounds_toArray, List.set_cons_zero, List.set_cons_succ]
            refine wpAnyH_take (i := 12) (oi := ⟨some 51, _, _, _, _, _⟩) (v := ?_) rfl (by kernel_rfl) (by kernel_rfl) (by kernel_rfl) (fun _ _ _ h => h) (Or.inl ⟨by kernel_rfl, ?y152⟩) (by assumption) ?_
            case y152 => (intro w hSw; (try dsimp only at hSw); first | (go_simp; done) | (go_simp; with_reducible rfl))
            simp only [Act.put, List.setIfInBounds_toArray, List.set_cons_zero, List.set_cons_succ]
            refine wpAnyH_take (i := 13) (oi := ⟨some 52, _, _, _, _, _⟩) (v := ?_) rfl (by kernel_rfl) (by kernel_rfl) (by kernel_rfl) (fun _ _ _ h => h) (Or.inl ⟨by kernel_rfl, ?y153⟩) (by assumption) ?_
            case y153 => (intro w hSw; (try dsimp only at hSw); first | (go_simp; done) | (go_simp; with_reducible rfl))
            simp only [Act.put, List.setIfInBounds_toArray, List.set_cons_zero, List.set_cons_succ]
            refine wpAnyH_take (i := 14) (oi := ⟨some 53, _, _, _, _, _⟩) (v := ?_) rfl (by kernel_rfl) (by kernel_rfl) (by kernel_rfl) (fun _ _ _ h => h) (Or.inl ⟨by kernel_rfl, ?y154⟩) (by assumption) ?_
            case y154 => (intro w hSw; (try dsimp only at hSw); first | (go_simp; done) | (go_simp; with_reducible rfl))
            simp only [Act.put, List.setIfInBounds_toArray, List.set_cons_zero, List.set_cons_succ]
            refine wpAnyH_take (i := 15) (oi := ⟨some 54, _, _, _, _, _⟩) (v := ?_) rfl (by kernel_rfl) (by kernel_rfl) (by kernel_rfl) (fun _ _ _ h => h) (Or.inl ⟨by kernel_rfl, ?y155⟩) (by assumption) ?_
            case y155 => (intro w hSw; (try dsimp only at hSw); first | (go_simp; done) | (go_simp; with_reducible rfl))
            simp only [Act.put, List.setIfInBounds_toArray, List.set_cons_zero, List.set_cons_succ]
            refine wpAnyH_take (i := 16) (oi := ⟨some 55, _, _, _, _, _⟩) (v := ?_) rfl (by kernel_rfl) (by kernel_rfl) (by kernel_rfl) (fun _ _ _ h => h) (Or.inl ⟨by kernel_rfl, ?y156⟩) (by assumption) ?_
            case y156 => (intro w hSw; (try dsimp only at hSw); first | (go_simp; done) | (go_simp; with_reducible rfl))
            simp only [Act.put, List.setIfInBounds_toArray, List.set_cons_zero, List.set_cons_succ]
            refine wpAnyH_take (i := 17) (oi := ⟨some 56, _, _, _, _, _⟩) (v := ?_) rfl (by kernel_rfl) (by kernel_rfl) (by kernel_rfl) (fun _ _ _ h => h) (Or.inl ⟨by kernel_rfl, ?y157⟩) (by assumption) ?_
            case y157 => (intro w hSw; (try dsimp only at hSw); first | (go_simp; done) | (go_simp; with_reducible rfl))
            simp only [Act.put, List.setIfInBounds_toArray, List.set_cons_zero, List.set_cons_succ]
            refine wpAnyH_take (i := 18) (oi := ⟨some 57, _, _, _, _, _⟩) (v := ?_) rfl (by kernel_rfl) (by kernel_rfl) (by kernel_rfl) (fun _ _ _ h => h) (Or.inl ⟨by kernel_rfl, ?y158⟩) (by assumption) ?_
            case y158 => (intro w hSw; (try dsimp only at hSw); first | (go_simp; done) | (go_simp; with_reducible rfl))
            simp only [Act.put, List.setIfInBounds_toArray, List.set_cons_zero, List.set_cons_succ]
            refine wpAnyH_take (i := 19) (oi := ⟨some 58, _, _, _, _, _⟩) (v := ?_) rfl (by kernel_rfl) (by kernel_rfl) (by kernel_rfl) (fun _ _ _ h => h) (Or.inl ⟨by kernel_rfl, ?y159⟩) (by assumption) ?_
            case y159 => (intro w hSw; (try dsimp only at hSw); first | (go_simp; done) | (go_simp; with_reducible rfl))
            simp only [Act.put, List.setIfInBounds_toArray, List.set_cons_zero, List.set_cons_succ]
            refine wpAnyH_take (i := 20) (oi := ⟨some 59, _, _, _, _, _⟩) (v := undef) rfl (by kernel_rfl) (by kernel_rfl) (by kernel_rfl) (fun _ _ _ h => h) (Or.inr ⟨by kernel_rfl, rfl⟩) (by assumption) ?_
            simp only [Act.put, List.setIfInBounds_toArray, List.set_cons_zero, List.set_cons_succ]
            refine wpAnyH_take (i := 21) (oi := ⟨some 60, _, _, _, _, _⟩) (v := undef) rfl (by kernel_rfl) (by kernel_rfl) (by kernel_rfl) (fun _ _ _ h => h) (Or.inr ⟨by kernel_rfl, rfl⟩) (by assumption) ?_
            simp only [Act.put, List.setIfInBounds_toArray, List.set_cons_zero, List.set_cons_succ]
            refine wpAnyH_take (i := 22) (oi := ⟨some 61, _, _, _, _, _⟩) (v := undef) rfl (by kernel_rfl) (by kernel_rfl) (by kernel_rfl) (fun _ _ _ h => h) (Or.inr ⟨by kernel_rfl, rfl⟩) (by assumption) ?_
            simp only [Act.put, List.setIfInBounds_toArray, List.set_cons_zero, List.set_cons_succ]
            refine wpAnyH_take (i := 23) (oi := ⟨some 62, _, _, _, _, _⟩) (v := undef) rfl (by kernel_rfl) (by kernel_rfl) (by kernel_rfl) (fun _ _ _ h => h) (Or.inr ⟨by kernel_rfl, rfl⟩) (by assumption) ?_
            simp only [Act.put, List.setIfInBounds_toArray, List.set_cons_zero, List.set_cons_succ]
            refine wpAnyH_take (i := 24) (oi := ⟨some 63, _, _, _, _, _⟩) (v := undef) rfl (by kernel_rfl) (by kernel_rfl) (by kernel_rfl) (fun _ _ _ h => h) (Or.inr ⟨by kernel_rfl, rfl⟩) (by assumption) ?_
            simp only [Act.put, List.setIfInBounds_toArray, List.set_cons_zero, List.set_cons_succ]
            refine wpAnyH_take (i := 25) (oi := ⟨some 64, _, _, _, _, _⟩) (v := undef) rfl (by kernel_rfl) (by kernel_rfl) (by kernel_rfl) (fun _ _ _ h => h) (Or.inr ⟨by kernel_rfl, rfl⟩) (by assumption) ?_
            simp only [Act.put, List.setIfInBounds_toArray, List.set_cons_zero, List.set_cons_succ]
            refine wpAnyH_take (i := 26) (oi := ⟨some 65, _, _, _, _, _⟩) (v := undef) rfl (by kernel_rfl) (by kernel_rfl) (by kernel_rfl) (fun _ _ _ h => h) (Or.inr ⟨by kernel_rfl, rfl⟩) (by assumption) ?_
            simp only [Act.put, List.setIfInBounds_toArray, List.set_cons_zero, List.set_cons_succ]
            refine wpAnyH_take (i := 27) (oi := ⟨some 66, _, _, _, _, _⟩) (v := ?_) rfl (by kernel_rfl) (by kernel_rfl) (by kernel_rfl) (fun _ _ _ h => h) (Or.inl ⟨by kernel_rfl, ?y160⟩) (by assumption) ?_
            case y160 => (intro w hSw; (try dsimp only at hSw); first | (go_simp; done) | (go_simp; with_reducible rfl))
            simp only [Act.put, List.setIfInBounds_toArray, List.set_cons_zero, List.set_cons_succ]
            refine wpAnyH_done (by kernel_rfl) ?_ _
            go_wp2
            go_ret
            exact ⟨ret_bool (by rw [HE.out, HA2.out] <;> simp), B5.out⟩
        · have e2 : (g0 != qq) = true := by simpa using h2
          have HA2 := Lib.hid (HA.out.trans (by rw [(by simpa using h2 : (g0 == qq) = false)]; simp) : sentFrom (fun i => l3v fi i) st ps ps 0 = false)
          clear HA
          go_wp2
          refine wp_region_held_drew (S := fun w' => w'.cell? ⟨w.heap.size, 0, none⟩ = some (.int .i64 tag) ∧ w'.cell? ⟨w.heap.size, 1, none⟩ = some (.int .i64 st) ∧ w'.cell? ⟨w.heap.size, 2, none⟩ = some (.int .i64 fi) ∧ w'.cell? ⟨w.heap.size, 3, none⟩ = some (.slice (some ⟨b, off, none⟩) m c) ∧ w'.cell? ⟨w.heap.size, 4, none⟩ = some (.int .i64 ac) ∧ w'.cell? ⟨wr.heap.size, 0, none⟩ = some (.int .i64 g0) ∧ w'.cell? ⟨wr.heap.size, 1, none⟩ = some (.int .i64 g1) ∧ w'.cell? ⟨wr.heap.size, 2, none⟩ = some (.int .i64 g2) ∧ w'.cell? ⟨wr.heap.size, 3, none⟩ = some (.bool g3) ∧ w'.cell? ⟨wr.heap.size, 4, none⟩ = some (.bool g4) ∧ w'.cell? ⟨wr.heap.size, 5, none⟩ = some (.bool g5) ∧ w'.cell? ⟨wr.heap.size, 6, none⟩ = some (.string g6)) (by kernel_rfl) (by first | exact ⟨y0, y1, y2, y3, y4, q0, q1, q2, q3, q4, q5, q6⟩ | exact ⟨z0, z1, z2, z3, z4, r0, r1, r2, r3, r4, r5, r6⟩ | exact ⟨s0, s1, s2, s3, s4, v0, v1, v2, v3, v4, v5, v6⟩ | go_keep) (fun hHeld => ?_)
          refine wpAnyH_take (i := 0) (oi := ⟨some 39, _, _, _, _, _⟩) (v := ?_) rfl (by kernel_rfl) (by kernel_rfl) (by kernel_rfl) (fun _ _ _ h => h) (Or.inl ⟨by kernel_rfl, ?y161⟩) (by assumption) ?_
          case y161 => (intro w hSw; (try dsimp only at hSw); first | (go_simp; done) | (go_simp; with_reducible rfl))
          simp only [Act.put, List.setIfInBounds_toArray, List.set_cons_zero, List.set_cons_succ]
          refine wpAnyH_ready (rs := [1]) (by kernel_rfl) (by simp) ?_
          refine AllReadyH.cons (o := ⟨some 40, _, _, _, _, _⟩) rfl (fun K hK => ?_) AllReadyH.nil
          go_simp
          (go_at_call 37; (with_reducible refine (sdata_eq h1 hts _).mono ?_); rintro e w5 ⟨rfl, b5⟩; have X5 := Lib.hid (XA.out.drew.below b5 XA.out.drew.lt); have D5 := Lib.hid (HD.out.drew.below b5 HD.out.drew.lt); have B5 := Lib.hid (bstep BA.out.drew b5 BA.out.size); have z0 := X5.out.get 0 rfl; have z1 := X5.out.get 1 rfl; have z2 := X5.out.get 2 rfl; have z3 := X5.out.get 3 rfl; have z4 := X5.out.get 4 rfl; have r0 := D5.out.get 0 rfl; have r1 := D5.out.get 1 rfl; have r2 := D5.out.get 2 rfl; have r3 := D5.out.get 3 rfl; have r4 := D5.out.get 4 rfl; have r5 := D5.out.get 5 rfl; have r6 := D5.out.get 6 rfl; clear b5)
          first | go_wp2_with fail | skip
          refine hK.out _ _ (by first | exact ⟨y0, y1, y2, y3, y4, q0, q1, q2, q3, q4, q5, q6⟩ | exact ⟨z0, z1, z2, z3, z4, r0, r1, r2, r3, r4, r5, r6⟩ | exact ⟨s0, s1, s2, s3, s4, v0, v1, v2, v3, v4, v5, v6⟩ | go_keep) (fun hHeld => ?_)
          clear hK K
          try simp only [Act.put, List.setIfInBounds_toArray, List.set_cons_zero, List.set_cons_succ]
          refine wpAnyH_take (i := 2) (oi := ⟨some 41, _, _, _, _, _⟩) (v := ?_) rfl (by kernel_rfl) (by kernel_rfl) (by kernel_rfl) (fun _ _ _ h => h) (Or.inl ⟨by kernel_rfl, ?y162⟩) (by assumption) ?_
          case y162 => (intro w hSw; (try dsimp only at hSw); first | (go_simp; done) | (go_simp; with_reducible rfl))
          simp only [Act.put, List.setIfInBounds_toArray, List.set_cons_zero, List.set_cons_succ]
          refine wpAnyH_take (i := 3) (oi := ⟨some 42, _, _, _, _, _⟩) (v := ?_) rfl (by kernel_rfl) (by kernel_rfl) (by kernel_rfl) (fun _ _ _ h => h) (Or.inl ⟨by kernel_rfl, ?y163⟩) (by assumption) ?_
          case y163 => (intro w hSw; (try dsimp only at hSw); first | (go_simp; done) | (go_simp; with_reducible rfl))
          simp only [Act.put, List.setIfInBounds_toArray, List.set_cons_zero, List.set_cons_succ]
          refine wpAnyH_take (i := 4) (oi := ⟨some 43, _, _, _, _, _⟩) (v := ?_) rfl (by kernel_rfl) (by kernel_rfl) (by kernel_rfl) (fun _ _ _ h => h) (Or.inl ⟨by kernel_rfl, ?y164⟩) (by assumption) ?_
          case y164 => (intro w hSw; (try dsimp only at hSw); first | (go_simp; done) | (go_simp; with_reducible rfl))
          simp only [Act.put, List.setIfInBounds_toArray, List.set_cons_zero, List.set_cons_succ]
          refine wpAnyH_take (i := 5) (oi := ⟨some 44, _, _, _, _, _⟩) (v := ?_) rfl (by kernel_rfl) (by kernel_rfl) (by kernel_rfl) (fun _ _ _ h => h) (Or.inl ⟨by kernel_rfl, ?y165⟩) (by assumption) ?_
          case y165 => (intro w hSw; (try dsimp only at hSw); first | (go_simp; done) | (go_simp; with_reducible rfl))
          simp only [Act.put, List.setIfInBounds_toArray, List.set_cons_zero, List.set_cons_succ]
          refine wpAnyH_take (i := 6) (oi := ⟨some 45, _, _, _, _, _⟩) (v := ?_) rfl (by kernel_rfl) (by kernel_rfl) (by kernel_rfl) (fun _ _ _ h => h) (Or.inl ⟨by kernel_rfl, ?y166⟩) (by assumption) ?_
          case y166 => (intro w hSw; (try dsimp only at hSw); first | (go_simp; done) | (go_simp; with_reducible rfl))
          simp only [Act.put, List.setIfInBounds_toArray, List.set_cons_zero, List.set_cons_succ]
          refine wpAnyH_take (i := 7) (oi := ⟨some 46, _, _, _, _, _⟩) (v := ?_) rfl (by kernel_rfl) (by kernel_rfl) (by kernel_rfl) (fun _ _ _ h => h) (Or.inl ⟨by kernel_rfl, ?y167⟩) (by assumption) ?_
          case y167 => (intro w hSw; (try dsimp only at hSw); first | (go_simp; done) | (go_simp; with_reducible rfl))
          simp only [Act.put, List.setIfInBounds_toArray, List.set_cons_zero, List.set_cons_succ]
          refine wpAnyH_take (i := 8) (oi := ⟨some 47, _, _, _, _, _⟩) (v := ?_) rfl (by kernel_rfl) (by kernel_rfl) (by kernel_rfl) (fun _ _ _ h => h) (Or.inl ⟨by kernel_rfl, ?y168⟩) (by assumption) ?_
          case y168 => (intro w hSw; (try dsimp only at hSw); first | (go_simp; done) | (go_simp; with_reducible rfl))
          simp only [Act.put, List.setIfInBounds_toArray, List.set_cons_zero, List.set_cons_succ]
          refine wpAnyH_ready (rs := [9]) (by kernel_rfl) (by simp) ?_
          refine AllReadyH.cons (o := ⟨some 48, _, _, _, _, _⟩) rfl (fun K hK => ?_) AllReadyH.nil
          go_simp
          (go_at_call 59; (with_reducible refine (l3_eq hq _).mono ?_); rintro e w6 ⟨rfl, rfl⟩)
          first | go_wp2_with fail | skip
          refine hK.out _ _ (by first | exact ⟨y0, y1, y2, y3, y4, q0, q1, q2, q3, q4, q5, q6⟩ | exact ⟨z0, z1, z2, z3, z4, r0, r1, r2, r3, r4, r5, r6⟩ | exact ⟨s0, s1, s2, s3, s4, v0, v1, v2, v3, v4, v5, v6⟩ | go_keep) (fun hHeld => ?_)
          clear hK K
          try simp only [Act.put, List.setIfInBounds_toArray, List.set_cons_zero, List.set_cons_succ]
          refine wpAnyH_take (i := 10) (oi := ⟨some 49, _, _, _, _, _⟩) (v := ?_) rfl (by kernel_rfl) (by kernel_rfl) (by kernel_rfl) (fun _ _ _ h => h) (Or.inl ⟨by kernel_rfl, ?y169⟩) (by assumption) ?_
          case y169 => (intro w hSw; (try dsimp only at hSw); first | (go_simp; done) | (go_simp; with_reducible rfl))
          simp only [Act.put, List.setIfInBounds_toArray, List.set_cons_zero, List.set_cons_succ]
          try simp only [e2]
          refine wpAnyH_take (i := 11) (oi := ⟨some 50, _, _, _, _, _⟩) (v := ?_) rfl (by kernel_rfl) (by kernel_rfl) (by kernel_rfl) (fun _ _ _ h => h) (Or.inl ⟨by kernel_rfl, ?y170⟩) (by assumption) ?_
          case y170 => (intro w hSw; (try dsimp only at hSw); first | (go_simp; done) | (go_simp; with_reducible rfl))
          simp only [Act.put, List.setIfInBounds_toArray, List.set_cons_zero, List.set_cons_succ]
          refine wpAnyH_take (i := 12) (oi := ⟨some 51, _, _, _, _, _⟩) (v := ?_) rfl (by kernel_rfl) (by kernel_rfl) (by kernel_rfl) (fun _ _ _ h => h) (Or.inl ⟨by kernel_rfl, ?y171⟩) (by assumption) ?_
          case y171 => (intro w hSw; (try dsimp only at hSw); first | (go_simp; done) | (go_simp; with_reducible rfl))
          simp only [Act.put, List.setIfInBounds_toArray, List.set_cons_zero, List.set_cons_succ]
          refine wpAnyH_take (i := 13) (oi := ⟨some 52, _, _, _, _, _⟩) (v := undef) rfl (by kernel_rfl) (by kernel_rfl) (by kernel_rfl) (fun _ _ _ h => h) (Or.inr ⟨by kernel_rfl, rfl⟩) (by assumption) ?_
          simp only [Act.put, List.setIfInBounds_toArray, List.set_cons_zero, List.set_cons_succ]
          refine wpAnyH_take (i := 14) (oi := ⟨some 53, _, _, _, _, _⟩) (v := undef) rfl (by kernel_rfl) (by kernel_rfl) (by kernel_rfl) (fun _ _ _ h => h) (Or.inr ⟨by kernel_rfl, rfl⟩) (by assumption) ?_
          simp only [Act.put, List.setIfInBounds_toArray, List.set_cons_zero, List.set_cons_succ]
          refine wpAnyH_take (i := 15) (oi := ⟨some 54, _, _, _, _, _⟩) (v := undef) rfl (by kernel_rfl) (by kernel_rfl) (by kernel_rfl) (fun _ _ _ h => h) (Or.inr ⟨by kernel_rfl, rfl⟩) (by assumption) ?_
          simp only [Act.put, List.setIfInBounds_toArray, List.set_cons_zero, List.set_cons_succ]
          refine wpAnyH_take (i := 16) (oi := ⟨some 55, _, _, _, _, _⟩) (v := undef) rfl (by kernel_rfl) (by kernel_rfl) (by kernel_rfl) (fun _ _ _ h => h) (Or.inr ⟨by kernel_rfl, rfl⟩) (by assumption) ?_
          simp only [Act.put, List.setIfInBounds_toArray, List.set_cons_zero, List.set_cons_succ]
          refine wpAnyH_take (i := 17) (oi := ⟨some 56, _, _, _, _, _⟩) (v := undef) rfl (by kernel_rfl) (by kernel_rfl) (by kernel_rfl) (fun _ _ _ h => h) (Or.inr ⟨by kernel_rfl, rfl⟩) (by assumption) ?_
          simp only [Act.put, List.setIfInBounds_toArray, List.set_cons_zero, List.set_cons_succ]
          refine wpAnyH_take (i := 18) (oi := ⟨some 57, _, _, _, _, _⟩) (v := ?_) rfl (by kernel_rfl) (by kernel_rfl) (by kernel_rfl) (fun _ _ _ h => h) (Or.inl ⟨by kernel_rfl, ?y172⟩) (by assumption) ?_
          case y172 => (intro w hSw; (try dsimp only at hSw); first | (go_simp; done) | (go_simp; with_reducible rfl))
          simp only [Act.put, List.setIfInBounds_toArray, List.set_cons_zero, List.set_cons_succ]
          refine wpAnyH_take (i := 19) (oi := ⟨some 58, _, _, _, _, _⟩) (v := ?_) rfl (by kernel_rfl) (by kernel_rfl) (by kernel_rfl) (fun _ _ _ h => h) (Or.inl ⟨by kernel_rfl, ?y173⟩) (by assumption) ?_
          case y173 => (intro w hSw; (try dsimp only at hSw); first | (go_simp; done) | (go_simp; with_reducible rfl))
          simp only [Act.put, List.setIfInBounds_toArray, List.set_cons_zero, List.set_cons_succ]
          refine wpAnyH_take (i := 20) (oi := ⟨some 59, _, _, _, _, _⟩) (v := undef) rfl (by kernel_rfl) (by kernel_rfl) (by kernel_rfl) (fun _ _ _ h => h) (Or.inr ⟨by kernel_rfl, rfl⟩) (by assumption) ?_
          simp only [Act.put, List.setIfInBounds_toArray, List.set_cons_zero, List.set_cons_succ]
          refine wpAnyH_take (i := 21) (oi := ⟨some 60, _, _, _, _, _⟩) (v := undef) rfl (by kernel_rfl) (by kernel_rfl) (by kernel_rfl) (fun _ _ _ h => h) (Or.inr ⟨by kernel_rfl, rfl⟩) (by assumption) ?_
          simp only [Act.put, List.setIfInBounds_toArray, List.set_cons_zero, List.set_cons_succ]
          refine wpAnyH_take (i := 22) (oi := ⟨some 61, _, _, _, _, _⟩) (v := undef) rfl (by kernel_rfl) (by kernel_rfl) (by kernel_rfl) (fun _ _ _ h => h) (Or.inr ⟨by kernel_rfl, rfl⟩) (by assumption) ?_
          simp only [Act.put, List.setIfInBounds_toArray, List.set_cons_zero, List.set_cons_succ]
          refine wpAnyH_take (i := 23) (oi := ⟨some 62, _, _, _, _, _⟩) (v := undef) rfl (by kernel_rfl) (by kernel_rfl) (by kernel_rfl) (fun _ _ _ h => h) (Or.inr ⟨by kernel_rfl, rfl⟩) (by assumption) ?_
          simp only [Act.put, List.setIfInBounds_toArray, List.set_cons_zero, List.set_cons_succ]
          refine wpAnyH_take (i := 24) (oi := ⟨some 63, _, _, _, _, _⟩) (v := undef) rfl (by kernel_rfl) (by kernel_rfl) (by kernel_rfl) (fun _ _ _ h => h) (Or.inr ⟨by kernel_rfl, rfl⟩) (by assumption) ?_
          simp only [Act.put, List.setIfInBounds_toArray, List.set_cons_zero, List.set_cons_succ]
          refine wpAnyH_take (i := 25) (oi := ⟨some 64, _, _, _, _, _⟩) (v := undef) rfl (by kernel_rfl) (by kernel_rfl) (by kernel_rfl) (fun _ _ _ h => h) (Or.inr ⟨by kernel_rfl, rfl⟩) (by assumption) ?_
          simp only [Act.put, List.setIfInBounds_toArray, List.set_cons_zero, List.set_cons_succ]
          refine wpAnyH_take (i := 26) (oi := ⟨some 65, _, _, _, _, _⟩) (v := undef) rfl (by kernel_rfl) (by kernel_rfl) (by kernel_rfl) (fun _ _ _ h => h) (Or.inr ⟨by kernel_rfl, rfl⟩) (by assumption) ?_
          simp only [Act.put, List.setIfInBounds_toArray, List.set_cons_zero, List.set_cons_succ]
          refine wpAnyH_take (i := 27) (oi := ⟨some 66, _, _, _, _, _⟩) (v := ?_) rfl (by kernel_rfl) (by kernel_rfl) (by kernel_rfl) (fun _ _ _ h => h) (Or.inl ⟨by kernel_rfl, ?y174⟩) (by assumption) ?_
          case y174 => (intro w hSw; (try dsimp only at hSw); first | (go_simp; done) | (go_simp; with_reducible rfl))
          simp only [Act.put, List.setIfInBounds_toArray, List.set_cons_zero, List.set_cons_succ]
          refine wpAnyH_done (by kernel_rfl) ?_ _
          go_wp2
          go_ret
          exact ⟨ret_bool (by rw [HE.out, HA2.out] <;> simp), B5.out⟩
      · replace h1 := Bool.eq_false_iff.2 h1
        have HA2 := Lib.hid (HA.out.trans (by rw [h1]; simp) : sentFrom (fun i => l3v fi i) st ps ps 0 = false)
        clear HA
        go_wp2
        refine wp_region_held_drew (S := fun w' => w'.cell? ⟨w.heap.size, 0, none⟩ = some (.int .i64 tag) ∧ w'.cell? ⟨w.heap.size, 1, none⟩ = some (.int .i64 st) ∧ w'.cell? ⟨w.heap.size, 2, none⟩ = some (.int .i64 fi) ∧ w'.cell? ⟨w.heap.size, 3, none⟩ = some (.slice (some ⟨b, off, none⟩) m c) ∧ w'.cell? ⟨w.heap.size, 4, none⟩ = some (.int .i64 ac) ∧ w'.cell? ⟨wr.heap.size, 0, none⟩ = some (.int .i64 g0) ∧ w'.cell? ⟨wr.heap.size, 1, none⟩ = some (.int .i64 g1) ∧ w'.cell? ⟨wr.heap.size, 2, none⟩ = some (.int .i64 g2) ∧ w'.cell? ⟨wr.heap.size, 3, none⟩ = some (.bool g3) ∧ w'.cell? ⟨wr.heap.size, 4, none⟩ = some (.bool g4) ∧ w'.cell? ⟨wr.heap.size, 5, none⟩ = some (.bool g5) ∧ w'.cell? ⟨wr.heap.size, 6, none⟩ = some (.string g6)) (by kernel_rfl) (by first | exact ⟨y0, y1, y2, y3, y4, q0, q1, q2, q3, q4, q5, q6⟩ | exact ⟨z0, z1, z2, z3, z4, r0, r1, r2, r3, r4, r5, r6⟩ | exact ⟨s0, s1, s2, s3, s4, v0, v1, v2, v3, v4, v5, v6⟩ | go_keep) (fun hHeld => ?_)
        refine wpAnyH_take (i := 0) (oi := ⟨some 39, _, _, _, _, _⟩) (v := ?_) rfl (by kernel_rfl) (by kernel_rfl) (by kernel_rfl) (fun _ _ _ h => h) (Or.inl ⟨by kernel_rfl, ?y175⟩) (by assumption) ?_
        case y175 => (intro w hSw; (try dsimp only at hSw); first | (go_simp; done) | (go_simp; with_reducible rfl))
        simp only [Act.put, List.setIfInBounds_toArray, List.set_cons_zero, List.set_cons_succ]
        refine wpAnyH_ready (rs := [1]) (by kernel_rfl) (by simp) ?_
        refine AllReadyH.cons (o := ⟨some 40, _, _, _, _, _⟩) rfl (fun K hK => ?_) AllReadyH.nil
        go_simp
        (go_at_call 37; (with_reducible refine (sdata_eq h1 hts _).mono ?_); rintro e w5 ⟨rfl, b5⟩; have X5 := Lib.hid (XA.out.drew.below b5 XA.out.drew.lt); have D5 := Lib.hid (HD.out.drew.below b5 HD.out.drew.lt); have B5 := Lib.hid (bstep BA.out.drew b5 BA.out.size); have z0 := X5.out.get 0 rfl; have z1 := X5.out.get 1 rfl; have z2 := X5.out.get 2 rfl; have z3 := X5.out.get 3 rfl; have z4 := X5.out.get 4 rfl; have r0 := D5.out.get 0 rfl; have r1 := D5.out.get 1 rfl; have r2 := D5.out.get 2 rfl; have r3 := D5.out.get 3 rfl; have r4 := D5.out.get 4 rfl; have r5 := D5.out.get 5 rfl; have r6 := D5.out.get 6 rfl; clear b5)
        first | go_wp2_with fail | skip
        refine hK.out _ _ (by first | exact ⟨y0, y1, y2, y3, y4, q0, q1, q2, q3, q4, q5, q6⟩ | exact ⟨z0, z1, z2, z3, z4, r0, r1, r2, r3, r4, r5, r6⟩ | exact ⟨s0, s1, s2, s3, s4, v0, v1, v2, v3, v4, v5, v6⟩ | go_keep) (fun hHeld => ?_)
        clear hK K
        try simp only [Act.put, List.setIfInBounds_toArray, List.set_cons_zero, List.set_cons_succ]
        refine wpAnyH_take (i := 2) (oi := ⟨some 41, _, _, _, _, _⟩) (v := ?_) rfl (by kernel_rfl) (by kernel_rfl) (by kernel_rfl) (fun _ _ _ h => h) (Or.inl ⟨by kernel_rfl, ?y176⟩) (by assumption) ?_
        case y176 => (intro w hSw; (try dsimp only at hSw); first | (go_simp; done) | (go_simp; with_reducible rfl))
        simp only [Act.put, List.setIfInBounds_toArray, List.set_cons_zero, List.set_cons_succ]
        refine wpAnyH_take (i := 3) (oi := ⟨some 42, _, _, _, _, _⟩) (v := ?_) rfl (by kernel_rfl) (by kernel_rfl) (by kernel_rfl) (fun _ _ _ h => h) (Or.inl ⟨by kernel_rfl, ?y177⟩) (by assumption) ?_
        case y177 => (intro w hSw; (try dsimp only at hSw); first | (go_simp; done) | (go_simp; with_reducible rfl))
        simp only [Act.put, List.setIfInBounds_toArray, List.set_cons_zero, List.set_cons_succ]
        refine wpAnyH_take (i := 4) (oi := ⟨some 43, _, _, _, _, _⟩) (v := undef) rfl (by kernel_rfl) (by kernel_rfl) (by kernel_rfl) (fun _ _ _ h => h) (Or.inr ⟨by kernel_rfl, rfl⟩) (by assumption) ?_
        simp only [Act.put, List.setIfInBounds_toArray, List.set_cons_zero, List.set_cons_succ]
        refine wpAnyH_take (i := 5) (oi := ⟨some 44, _, _, _, _, _⟩) (v := undef) rfl (by kernel_rfl) (by kernel_rfl) (by kernel_rfl) (fun _ _ _ h => h) (Or.inr ⟨by kernel_rfl, rfl⟩) (by assumption) ?_
        simp only [Act.put, List.setIfInBounds_toArray, List.set_cons_zero, List.set_cons_succ]
        refine wpAnyH_take (i := 6) (oi := ⟨some 45, _, _, _, _, _⟩) (v := undef) rfl (by kernel_rfl) (by kernel_rfl) (by kernel_rfl) (fun _ _ _ h => h) (Or.inr ⟨by kernel_rfl, rfl⟩) (by assumption) ?_
        simp only [Act.put, List.setIfInBounds_toArray, List.set_cons_zero, List.set_cons_succ]
        refine wpAnyH_take (i := 7) (oi := ⟨some 46, _, _, _, _, _⟩) (v := undef) rfl (by kernel_rfl) (by kernel_rfl) (by kernel_rfl) (fun _ _ _ h => h) (Or.inr ⟨by kernel_rfl, rfl⟩) (by assumption) ?_
        simp only [Act.put, List.setIfInBounds_toArray, List.set_cons_zero, List.set_cons_succ]
        refine wpAnyH_take (i := 8) (oi := ⟨some 47, _, _, _, _, _⟩) (v := undef) rfl (by kernel_rfl) (by kernel_rfl) (by kernel_rfl) (fun _ _ _ h => h) (Or.inr ⟨by kernel_rfl, rfl⟩) (by assumption) ?_
        simp only [Act.put, List.setIfInBounds_toArray, List.set_cons_zero, List.set_cons_succ]
        refine wpAnyH_take (i := 9) (oi := ⟨some 48, _, _, _, _, _⟩) (v := undef) rfl (by kernel_rfl) (by kernel_rfl) (by kernel_rfl) (fun _ _ _ h => h) (Or.inr ⟨by kernel_rfl, rfl⟩) (by assumption) ?_
        simp only [Act.put, List.setIfInBounds_toArray, List.set_cons_zero, List.set_cons_succ]
        refine wpAnyH_take (i := 10) (oi := ⟨some 49, _, _, _, _, _⟩) (v := undef) rfl (by kernel_rfl) (by kernel_rfl) (by kernel_rfl) (fun _ _ _ h => h) (Or.inr ⟨by kernel_rfl, rfl⟩) (by assumption) ?_
        simp only [Act.put, List.setIfInBounds_toArray, List.set_cons_zero, List.set_cons_succ]
        refine wpAnyH_take (i := 11) (oi := ⟨some 50, _, _, _, _, _⟩) (v := ?_) rfl (by kernel_rfl) (by kernel_rfl) (by kernel_rfl) (fun _ _ _ h => h) (Or.inl ⟨by kernel_rfl, ?y178⟩) (by assumption) ?_
        case y178 => (intro w hSw; (try dsimp only at hSw); first | (go_simp; done) | (go_simp; with_reducible rfl))
        simp only [Act.put, List.setIfInBounds_toArray, List.set_cons_zero, List.set_cons_succ]
        refine wpAnyH_take (i := 12) (oi := ⟨some 51, _, _, _, _, _⟩) (v := ?_) rfl (by kernel_rfl) (by kernel_rfl) (by kernel_rfl) (fun _ _ _ h => h) (Or.inl ⟨by kernel_rfl, ?y179⟩) (by assumption) ?_
        case y179 => (intro w hSw; (try dsimp only at hSw); first | (go_simp; done) | (go_simp; with_reducible rfl))
        simp only [Act.put, List.setIfInBounds_toArray, List.set_cons_zero, List.set_cons_succ]
        refine wpAnyH_take (i := 13) (oi := ⟨some 52, _, _, _, _, _⟩) (v := undef) rfl (by kernel_rfl) (by kernel_rfl) (by kernel_rfl) (fun _ _ _ h => h) (Or.inr ⟨by kernel_rfl, rfl⟩) (by assumption) ?_
        simp only [Act.put, List.setIfInBounds_toArray, List.set_cons_zero, List.set_cons_succ]
        refine wpAnyH_take (i := 14) (oi := ⟨some 53, _, _, _, _, _⟩) (v := undef) rfl (by kernel_rfl) (by kernel_rfl) (by kernel_rfl) (fun _ _ _ h => h) (Or.inr ⟨by kernel_rfl, rfl⟩) (by assumption) ?_
        simp only [Act.put, List.setIfInBounds_toArray, List.set_cons_zero, List.set_cons_succ]
        refine wpAnyH_take (i := 15) (oi := ⟨some 54, _, _, _, _, _⟩) (v := undef) rfl (by kernel_rfl) (by kernel_rfl) (by kernel_rfl) (fun _ _ _ h => h) (Or.inr ⟨by kernel_rfl, rfl⟩) (by assumption) ?_
        simp only [Act.put, List.setIfInBounds_toArray, List.set_cons_zero, List.set_cons_succ]
        refine wpAnyH_take (i := 16) (oi := ⟨some 55, _, _, _, _, _⟩) (v := undef) rfl (by kernel_rfl) (by kernel_rfl) (by kernel_rfl) (fun _ _ _ h => h) (Or.inr ⟨by kernel_rfl, rfl⟩) (by assumption) ?_
        simp only [Act.put, List.setIfInBounds_toArray, List.set_cons_zero, List.set_cons_succ]
        refine wpAnyH_take (i := 17) (oi := ⟨some 56, _, _, _, _, _⟩) (v := undef) rfl (by kernel_rfl) (by kernel_rfl) (by kernel_rfl) (fun _ _ _ h => h) (Or.inr ⟨by kernel_rfl, rfl⟩) (by assumption) ?_
        simp only [Act.put, List.setIfInBounds_toArray, List.set_cons_zero, List.set_cons_succ]
        refine wpAnyH_take (i := 18) (oi := ⟨some 57, _, _, _, _, _⟩) (v := ?_) rfl (by kernel_rfl) (by kernel_rfl) (by kernel_rfl) (fun _ _ _ h => h) (Or.inl ⟨by kernel_rfl, ?y180⟩) (by assumption) ?_
        case y180 => (intro w hSw; (try dsimp only at hSw); first | (go_simp; done) | (go_simp; with_reducible rfl))
        simp only [Act.put, List.setIfInBounds_toArray, List.set_cons_zero, List.set_cons_succ]
        refine wpAnyH_take (i := 19) (oi := ⟨some 58, _, _, _, _, _⟩) (v := ?_) rfl (by kernel_rfl) (by kernel_rfl) (by kernel_rfl) (fun _ _ _ h => h) (Or.inl ⟨by kernel_rfl, ?y181⟩) (by assumption) ?_
        case y181 => (intro w hSw; (try dsimp only at hSw); first | (go_simp; done) | (go_simp; with_reducible rfl))
        simp only [Act.put, List.setIfInBounds_toArray, List.set_cons_zero, List.set_cons_succ]
        refine wpAnyH_take (i := 20) (oi := ⟨some 59, _, _, _, _, _⟩) (v := undef) rfl (by kernel_rfl) (by kernel_rfl) (by kernel_rfl) (fun _ _ _ h => h) (Or.inr ⟨by kernel_rfl, rfl⟩) (by assumption) ?_
        simp only [Act.put, List.setIfInBounds_toArray, List.set_cons_zero, List.set_cons_succ]
        refine wpAnyH_take (i := 21) (oi := ⟨some 60, _, _, _, _, _⟩) (v := undef) rfl (by kernel_rfl) (by kernel_rfl) (by kernel_rfl) (fun _ _ _ h => h) (Or.inr ⟨by kernel_rfl, rfl⟩) (by assumption) ?_
        simp only [Act.put, List.setIfInBounds_toArray, List.set_cons_zero, List.set_cons_succ]
        refine wpAnyH_take (i := 22) (oi := ⟨some 61, _, _, _, _, _⟩) (v := undef) rfl (by kernel_rfl) (by kernel_rfl) (by kernel_rfl) (fun _ _ _ h => h) (Or.inr ⟨by kernel_rfl, rfl⟩) (by assumption) ?_
        simp only [Act.put, List.setIfInBounds_toArray, List.set_cons_zero, List.set_cons_succ]
        refine wpAnyH_take (i := 23) (oi := ⟨some 62, _, _, _, _, _⟩) (v := undef) rfl (by kernel_rfl) (by kernel_rfl) (by kernel_rfl) (fun _ _ _ h => h) (Or.inr ⟨by kernel_rfl, rfl⟩) (by assumption) ?_
        simp only [Act.put, List.setIfInBounds_toArray, List.set_cons_zero, List.set_cons_succ]
        refine wpAnyH_take (i := 24) (oi := ⟨some 63, _, _, _, _, _⟩) (v := undef) rfl (by kernel_rfl) (by kernel_rfl) (by kernel_rfl) (fun _ _ _ h => h) (Or.inr ⟨by kernel_rfl, rfl⟩) (by assumption) ?_
        simp only [Act.put, List.setIfInBounds_toArray, List.set_cons_zero, List.set_cons_succ]
        refine wpAnyH_take (i := 25) (oi := ⟨some 64, _, _, _, _, _⟩) (v := undef) rfl (by kernel_rfl) (by kernel_rfl) (by kernel_rfl) (fun _ _ _ h => h) (Or.inr ⟨by kernel_rfl, rfl⟩) (by assumption) ?_
        simp only [Act.put, List.setIfInBounds_toArray, List.set_cons_zero, List.set_cons_succ]
        refine wpAnyH_take (i := 26) (oi := ⟨some 65, _, _, _, _, _⟩) (v := undef) rfl (by kernel_rfl) (by kernel_rfl) (by kernel_rfl) (fun _ _ _ h => h) (Or.inr ⟨by kernel_rfl, rfl⟩) (by assumption) ?_
        simp only [Act.put, List.setIfInBounds_toArray, List.set_cons_zero, List.set_cons_succ]
        refine wpAnyH_take (i := 27) (oi := ⟨some 66, _, _, _, _, _⟩) (v := ?_) rfl (by kernel_rfl) (by kernel_rfl) (by kernel_rfl) (fun _ _ _ h => h) (Or.inl ⟨by kernel_rfl, ?y182⟩) (by assumption) ?_
        case y182 => (intro w hSw; (try dsimp only at hSw); first | (go_simp; done) | (go_simp; with_reducible rfl))
        simp only [Act.put, List.setIfInBounds_toArray, List.set_cons_zero, List.set_cons_succ]
        refine wpAnyH_done (by kernel_rfl) ?_ _
        go_wp2
        go_ret
        exact ⟨ret_bool (by rw [HE.out, HA2.out] <;> simp), B5.out⟩
    · have HA2 := Lib.hid (ha.out.trans (sent_end (by rw [HM.out]; omega)))
      clear ha
      have x0 := X.out.get 0 rfl
      have x1 := X.out.get 1 rfl
      have x2 := X.out.get 2 rfl
      have x3 := X.out.get 3 rfl
      have x4 := X.out.get 4 rfl
      by_cases c1 : inB tag 1 4294967295 = true
      · have p1 := inB_true c1
        by_cases c2 : inB st 1 4 = true
        · have p2 := inB_true c2
          by_cases c3 : okB fi = true
          · skip
            by_cases c4 : m ≤ 12
            · have p4 : m ≤ 12 := c4
              by_cases c5 : inB ac 0 m = true
              · have p5 := inB_true c5
                go_wp2_with (first | (go_at_call 55; refine (in_any _ _ _ _).mono ?_; rintro e w' ⟨rfl, rfl⟩) | (go_at_call 56; refine (l3ok_any _ _).mono ?_; rintro e w' ⟨rfl, rfl⟩))
                go_ret
                exact ⟨ret_bool (by rw [HE.out, HA2.out]; unfold headB; rw [c3, decide_eq_true p1, decide_eq_true p2, decide_eq_true p4, decide_eq_true p5]; rfl), B.out⟩
              · have c5 : inB ac 0 m = false := by simpa using c5
                have hx : decide (0 ≤ ac ∧ ac ≤ m) = false := decide_eq_false (inB_false c5)
                have HR := Lib.hid (by rw [HE.out]; unfold headB; rw [hx]; simp : v = false)
                clear HE hx
                go_wp2_with (first | (go_at_call 55; refine (in_any _ _ _ _).mono ?_; rintro e w' ⟨rfl, rfl⟩) | (go_at_call 56; refine (l3ok_any _ _).mono ?_; rintro e w' ⟨rfl, rfl⟩))
                go_ret
                exact ⟨ret_bool HR.out.symm, B.out⟩
            · have hx : decide (m ≤ 12) = false := decide_eq_false c4
              have HR := Lib.hid (by rw [HE.out]; unfold headB; rw [hx]; simp : v = false)
              clear HE hx
              go_wp2_with (first | (go_at_call 55; refine (in_any _ _ _ _).mono ?_; rintro e w' ⟨rfl, rfl⟩) | (go_at_call 56; refine (l3ok_any _ _).mono ?_; rintro e w' ⟨rfl, rfl⟩))
              go_ret
              exact ⟨ret_bool HR.out.symm, B.out⟩
          · have c3 : okB fi = false := by simpa using c3
            have hx := c3
            have HR := Lib.hid (by rw [HE.out]; unfold headB; rw [hx]; simp : v = false)
            clear HE hx
            go_wp2_with (first | (go_at_call 55; refine (in_any _ _ _ _).mono ?_; rintro e w' ⟨rfl, rfl⟩) | (go_at_call 56; refine (l3ok_any _ _).mono ?_; rintro e w' ⟨rfl, rfl⟩))
            go_ret
            exact ⟨ret_bool HR.out.symm, B.out⟩
        · have c2 : inB st 1 4 = false := by simpa using c2
          have hx : decide (1 ≤ st ∧ st ≤ 4) = false := decide_eq_false (inB_false c2)
          have HR := Lib.hid (by rw [HE.out]; unfold headB; rw [hx]; simp : v = false)
          clear HE hx
          go_wp2_with (first | (go_at_call 55; refine (in_any _ _ _ _).mono ?_; rintro e w' ⟨rfl, rfl⟩) | (go_at_call 56; refine (l3ok_any _ _).mono ?_; rintro e w' ⟨rfl, rfl⟩))
          go_ret
          exact ⟨ret_bool HR.out.symm, B.out⟩
      · have c1 : inB tag 1 4294967295 = false := by simpa using c1
        have hx : decide (1 ≤ tag ∧ tag ≤ 4294967295) = false := decide_eq_false (inB_false c1)
        have HR := Lib.hid (by rw [HE.out]; unfold headB; rw [hx]; simp : v = false)
        clear HE hx
        go_wp2_with (first | (go_at_call 55; refine (in_any _ _ _ _).mono ?_; rintro e w' ⟨rfl, rfl⟩) | (go_at_call 56; refine (l3ok_any _ _).mono ?_; rintro e w' ⟨rfl, rfl⟩))
        go_ret
        exact ⟨ret_bool HR.out.symm, B.out⟩
end Go.Proofs.Ytkhaodbcnnlhaaa
