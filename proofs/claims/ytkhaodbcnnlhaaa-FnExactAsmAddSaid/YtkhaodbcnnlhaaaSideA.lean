/-
  Parts that are alike; how many messages of a stream begin; whether a part may follow. Conditions: those that each theorem bears.
-/
import Derived.Test.YtkhaodbcnnlhaaaDat
import Derived.Test.YtkhaodbcnnlhaaaDatE
namespace Go.Proofs.Ytkhaodbcnnlhaaa
open Go.ChangeShapes Go.WideShapes Go.ChangeAt Go.RowKit
set_option linter.unusedVariables false
set_option linter.unusedSimpArgs false
def likeB (a b : Dat) : Bool := a.stream == b.stream && a.ssn == b.ssn && a.loose == b.loose
theorem like_comm (a b : Dat) : likeB a b = likeB b a := by
  unfold likeB
  rw [Bool.beq_comm (a := a.loose)]
  congr 1
  congr 1
  · exact Bool.eq_iff_iff.2 (by simp; exact eq_comm)
  · exact Bool.eq_iff_iff.2 (by simp; exact eq_comm)
def begB (s : Int) (x : Dat) : Bool := x.first && !x.loose && (x.stream == s)
def cntB (s : Int) (l : List Dat) : Nat := l.countP (begB s)
theorem cnt_yes {s : Int} {l : List Dat} {k : Nat} {x : Dat} (h : l[k]? = some x) (hb : begB s x = true) : cntB s (l.take (k + 1)) = cntB s (l.take k) + 1 := by
  unfold cntB
  rw [List.take_add_one, h, List.countP_append]
  simp [hb]
theorem cnt_no {s : Int} {l : List Dat} {k : Nat} {x : Dat} (h : l[k]? = some x) (hb : begB s x = false) : cntB s (l.take (k + 1)) = cntB s (l.take k) := by
  unfold cntB
  rw [List.take_add_one, h, List.countP_append]
  simp [hb]
def baseB (l : List Dat) (d : Dat) : Bool := d.first && (d.loose || d.ssn == (cntB d.stream l : Int))
def followB (l : List Dat) (d : Dat) : Bool :=
  match l.getLast? with
  | some x => if x.last then baseB l d else (!d.first && likeB d x)
  | none => baseB l d
theorem follow_nil (d : Dat) : followB [] d = baseB [] d := rfl
theorem follow_last {l : List Dat} {m : Nat} {x : Dat} (hl : l.length = m + 1) (h : l[m]? = some x) (d : Dat) (hx : x.last = true) : followB l d = baseB l d := by
  unfold followB
  rw [List.getLast?_eq_getElem?, hl, Nat.add_sub_cancel, h]
  simp [hx]
theorem follow_on {l : List Dat} {m : Nat} {x : Dat} (hl : l.length = m + 1) (h : l[m]? = some x) (d : Dat) (hx : x.last = false) : followB l d = (!d.first && likeB d x) := by
  unfold followB
  rw [List.getLast?_eq_getElem?, hl, Nat.add_sub_cancel, h]
  simp [hx]
set_option maxHeartbeats 800000 in
theorem ilike_any {g0 g1 g2 : Int} {g3 g4 g5 : Bool} {g6 : ByteArray} {k0 k1 k2 : Int} {k3 k4 k5 : Bool} {k6 : ByteArray} {v : Bool} (hv : likeB ⟨g0, g1, g2, g3, g4, g5, g6⟩ ⟨k0, k1, k2, k3, k4, k5, k6⟩ = v) (w : World) : Calls Try.prog 65 #[.agg #[.int .i64 g0, .int .i64 g1, .int .i64 g2, .bool g3, .bool g4, .bool g5, .string g6], .agg #[.int .i64 k0, .int .i64 k1, .int .i64 k2, .bool k3, .bool k4, .bool k5, .string k6]] w fun e w' => e = .returned (.bool v) ∧ Below w.heap.size w w' := by
  subst hv
  by_cases h1 : g1 = k1
  · by_cases h2 : g2 = k2
    · subst h1 h2
      cases g5 <;> cases k5
      all_goals
        go_enter Try.func65, Try.ntmps65
        go_wp2
        go_ret
        exact ⟨ret_bool (by simp [likeB]), by go_grown⟩
    · subst h1
      have e2 : (g2 == k2) = false := by simpa using h2
      go_enter Try.func65, Try.ntmps65
      go_wp2
      go_ret
      exact ⟨ret_bool (by simp [likeB, e2]), by go_grown⟩
  · have e1 : (g1 == k1) = false := by simpa using h1
    go_enter Try.func65, Try.ntmps65
    go_wp2
    go_ret
    exact ⟨ret_bool (by simp [likeB, e1]), by go_grown⟩
set_option maxHeartbeats 800000 in
theorem slike_any {g0 g1 g2 : Int} {g3 g4 g5 : Bool} {g6 : ByteArray} {k0 k1 k2 : Int} {k3 k4 k5 : Bool} {k6 : ByteArray} {v : Bool} (hv : likeB ⟨g0, g1, g2, g3, g4, g5, g6⟩ ⟨k0, k1, k2, k3, k4, k5, k6⟩ = v) (w : World) : Calls Try.prog 64 #[.agg #[.int .i64 g0, .int .i64 g1, .int .i64 g2, .bool g3, .bool g4, .bool g5, .string g6], .agg #[.int .i64 k0, .int .i64 k1, .int .i64 k2, .bool k3, .bool k4, .bool k5, .string k6]] w fun e w' => e = .returned (.bool v) ∧ Below w.heap.size w w' := by
  subst hv
  by_cases h1 : g1 = k1
  · by_cases h2 : g2 = k2
    · subst h1 h2
      cases g5 <;> cases k5
      all_goals
        go_enter Try.func64, Try.ntmps64
        go_wp2
        go_ret
        exact ⟨ret_bool (by simp [likeB]), by go_grown⟩
    · subst h1
      have e2 : (g2 == k2) = false := by simpa using h2
      go_enter Try.func64, Try.ntmps64
      go_wp2
      go_ret
      exact ⟨ret_bool (by simp [likeB, e2]), by go_grown⟩
  · have e1 : (g1 == k1) = false := by simpa using h1
    go_enter Try.func64, Try.ntmps64
    go_wp2
    go_ret
    exact ⟨ret_bool (by simp [likeB, e1]), by go_grown⟩
set_option maxHeartbeats 800000 in
theorem ssn_any (A : Option Addr) (n c : Nat) (l : List Dat) (s : Int) {r : Nat} (hr : cntB s l = r) (w : World) (hs : Sl w w.heap.size A (dats l)) (hn : l.length = n) (hm : n ≤ 9223372036854775807) :
    Calls Try.prog 66 #[.slice A n c, .int .i64 s] w fun e w' => e = .returned (.int .i64 (r : Int)) ∧ Below w.heap.size w w' := by
  have HS := Lib.hid hs; have HN := Lib.hid hn; have HR := Lib.hid hr; clear hs hn hr
  go_enter Try.func66, Try.ntmps66
  go_wp2
  go_loopw [5, 6] (fun cv iv wr => ∃ k q : Nat, k ≤ n ∧ q ≤ k ∧ iv = .int .i64 k ∧ cv = .int .i64 q ∧ Hid (cntB s (l.take k) = q) ∧ Below w.heap.size w wr) (fun _ iv _ => n - (intOf iv).toNat)
  case atStart => exact ⟨0, 0, by omega, by omega, rfl, rfl, Lib.hid rfl, Below.refl _ _⟩
  case round =>
    obtain ⟨k, q, hk, hq, rfl, rfl, hc, hb⟩ := hrel
    have B := Lib.hid hb
    clear hb
    by_cases hlt : k < n
    · obtain ⟨x, hx⟩ := fget_of_lt (xs := l) (k := k) (by rw [HN.out]; exact hlt)
      obtain ⟨b, off, rfl, hbl, ⟨e0, e1, e2, e3, e4, e5, e6⟩⟩ := dats_elem ((HS.out.below B.out (Nat.le_refl _)).more B.out.size) hx
      have HX := Lib.hid hx
      clear hx
      obtain ⟨g0, g1, g2, g3, g4, g5, g6⟩ := x
      change World.cell? _ _ = some (.int .i64 g0) at e0
      change World.cell? _ _ = some (.int .i64 g1) at e1
      change World.cell? _ _ = some (.int .i64 g2) at e2
      change World.cell? _ _ = some (.bool g3) at e3
      change World.cell? _ _ = some (.bool g4) at e4
      change World.cell? _ _ = some (.bool g5) at e5
      change World.cell? _ _ = some (.string g6) at e6
      have hq1 := IntWalk.i64_in ((q : Int) + 1) (by omega)
      cases g3 with
      | false =>
        have HC := Lib.hid ((cnt_no HX.out (by simp [begB]) : cntB s (l.take (k + 1)) = cntB s (l.take k)).trans hc.out)
        clear hc
        go_wp2
        go_roundw
        case rel => exact ⟨k + 1, q, by omega, by omega, by go_num, rfl, HC, B.out⟩
        case measure => simp [intOf]; omega
      | true =>
        cases g5 with
        | true =>
          have HC := Lib.hid ((cnt_no HX.out (by simp [begB]) : cntB s (l.take (k + 1)) = cntB s (l.take k)).trans hc.out)
          clear hc
          go_wp2
          go_roundw
          case rel => exact ⟨k + 1, q, by omega, by omega, by go_num, rfl, HC, B.out⟩
          case measure => simp [intOf]; omega
        | false =>
          by_cases hst : g1 = s
          · subst hst
            have HC := Lib.hid ((cnt_yes HX.out (by simp [begB]) : cntB g1 (l.take (k + 1)) = cntB g1 (l.take k) + 1).trans (by rw [hc.out]))
            clear hc
            go_wp2
            go_roundw
            case rel => exact ⟨k + 1, q + 1, by omega, by omega, by go_num, by go_num, HC, B.out⟩
            case measure => simp [intOf]; omega
          · have hst : (g1 == s) = false := by simpa using hst
            have HC := Lib.hid ((cnt_no HX.out (by simp [begB, hst]) : cntB s (l.take (k + 1)) = cntB s (l.take k)).trans hc.out)
            clear hc
            go_wp2
            go_roundw
            case rel => exact ⟨k + 1, q, by omega, by omega, by go_num, rfl, HC, B.out⟩
            case measure => simp [intOf]; omega
    · go_wp2
      go_ret
      refine ⟨ret_int ?_, B.out⟩
      rw [← HR.out, ← hc.out, List.take_of_length_le (by rw [HN.out]; omega)]
set_option maxHeartbeats 3200000 in
theorem imay_any (A : Option Addr) (n c : Nat) (l : List Dat) {d0 d1 d2 : Int} {d3 d4 d5 : Bool} {d6 : ByteArray} {v : Bool} (hv : followB l ⟨d0, d1, d2, d3, d4, d5, d6⟩ = v) (w : World) (hs : Sl w w.heap.size A (dats l)) (hn : l.length = n) (hm : n ≤ 9223372036854775807) :
    Calls Try.prog 63 #[.slice A n c, .agg #[.int .i64 d0, .int .i64 d1, .int .i64 d2, .bool d3, .bool d4, .bool d5, .string d6]] w fun e w' => e = .returned (.bool v) ∧ Below w.heap.size w w' := by
  have HS := Lib.hid hs; have HN := Lib.hid hn; have HV := Lib.hid hv; clear hs hn hv
  rcases Nat.eq_zero_or_pos n with hn0 | hn0
  · subst hn0
    have hl0 : l = [] := List.eq_nil_of_length_eq_zero HN.out
    have HB := Lib.hid (by rw [hl0]; rfl : followB l ⟨d0, d1, d2, d3, d4, d5, d6⟩ = baseB l ⟨d0, d1, d2, d3, d4, d5, d6⟩)
    clear hl0
    cases d3 with
    | false =>
      go_enter Try.func63, Try.ntmps63
      go_wp2
      go_ret
      exact ⟨ret_bool (by rw [← HV.out, HB.out]; simp [baseB]), by go_grown⟩
    | true =>
      cases d5 with
      | true =>
        go_enter Try.func63, Try.ntmps63
        go_wp2
        go_ret
        exact ⟨ret_bool (by rw [← HV.out, HB.out]; simp [baseB]), by go_grown⟩
      | false =>
        go_enter Try.func63, Try.ntmps63
        go_wp2
        have X0 := Lib.hid (Blk.new w #[.int .i64 d0, .int .i64 d1, .int .i64 d2, .bool true, .bool d4, .bool false, .string d6] 45)
        have B0 := Lib.hid ((Below.refl w.heap.size w).alloc (Nat.le_refl _) (.cells #[.int .i64 d0, .int .i64 d1, .int .i64 d2, .bool true, .bool d4, .bool false, .string d6] 45))
        go_loopw [5, 41] (fun cv iv wr => ∃ k q : Nat, k ≤ 0 ∧ q ≤ k ∧ iv = .int .i64 k ∧ cv = .int .i64 q ∧ Hid (cntB d1 (l.take k) = q) ∧ Blk wr w.heap.size #[.int .i64 d0, .int .i64 d1, .int .i64 d2, .bool true, .bool d4, .bool false, .string d6] 45 ∧ Below w.heap.size w wr) (fun _ iv _ => 0 - (intOf iv).toNat)
        case atStart => exact ⟨0, 0, by omega, by omega, rfl, rfl, Lib.hid rfl, X0.out, B0.out⟩
        case round =>
          obtain ⟨k, q, hk, hq, rfl, rfl, hc, hx, hb⟩ := hrel
          have B := Lib.hid hb
          have X := Lib.hid hx
          clear hb hx
          have y1 := X.out.get 1 rfl
          have y2 := X.out.get 2 rfl
          have hl := X.out.lt
          by_cases hlt : k < 0
          · exact absurd hlt (by omega)
          · have HC := Lib.hid ((by rw [← hc.out, List.take_of_length_le (by rw [HN.out]; omega)] : cntB d1 l = q))
            clear hc
            go_wp2
            go_ret
            exact ⟨ret_bool (by rw [← HV.out, HB.out]; simp [baseB, HC.out]), B.out⟩
  · obtain ⟨m, rfl⟩ : ∃ m, n = m + 1 := ⟨n - 1, by omega⟩
    obtain ⟨x, hx⟩ := fget_of_lt (xs := l) (k := m) (by rw [HN.out]; omega)
    obtain ⟨b, off, rfl, hbl, ⟨z0, z1, z2, z3, z4, z5, z6⟩⟩ := dats_elem HS.out hx
    have HX := Lib.hid hx
    clear hx
    obtain ⟨x0, x1, x2, x3, x4, x5, x6⟩ := x
    change World.cell? _ _ = some (.int .i64 x0) at z0
    change World.cell? _ _ = some (.int .i64 x1) at z1
    change World.cell? _ _ = some (.int .i64 x2) at z2
    change World.cell? _ _ = some (.bool x3) at z3
    change World.cell? _ _ = some (.bool x4) at z4
    change World.cell? _ _ = some (.bool x5) at z5
    change World.cell? _ _ = some (.string x6) at z6
    have hm1 := IntWalk.i64_in (m : Int) (by omega)
    have hm2 : ((m + 1 : Nat) : Int) - 1 = (m : Int) := by omega
    have hm3 : (0 : Int) ≤ (m : Int) := by omega
    have hm4 : (m : Int) < (m : Int) + 1 := by omega
    cases x4 with
    | true =>
      have HB := Lib.hid (follow_last HN.out HX.out ⟨d0, d1, d2, d3, d4, d5, d6⟩ rfl)
      clear HX
      cases d3 with
      | false =>
        go_enter Try.func63, Try.ntmps63
        go_wp2
        go_ret
        exact ⟨ret_bool (by rw [← HV.out, HB.out]; simp [baseB]), by go_grown⟩
      | true =>
        cases d5 with
        | true =>
          go_enter Try.func63, Try.ntmps63
          go_wp2
          go_ret
          exact ⟨ret_bool (by rw [← HV.out, HB.out]; simp [baseB]), by go_grown⟩
        | false =>
          go_enter Try.func63, Try.ntmps63
          go_wp2
          have X0 := Lib.hid (Blk.new w #[.int .i64 d0, .int .i64 d1, .int .i64 d2, .bool true, .bool d4, .bool false, .string d6] 45)
          have B0 := Lib.hid ((Below.refl w.heap.size w).alloc (Nat.le_refl _) (.cells #[.int .i64 d0, .int .i64 d1, .int .i64 d2, .bool true, .bool d4, .bool false, .string d6] 45))
          go_loopw [5, 41] (fun cv iv wr => ∃ k q : Nat, k ≤ (m + 1) ∧ q ≤ k ∧ iv = .int .i64 k ∧ cv = .int .i64 q ∧ Hid (cntB d1 (l.take k) = q) ∧ Blk wr w.heap.size #[.int .i64 d0, .int .i64 d1, .int .i64 d2, .bool true, .bool d4, .bool false, .string d6] 45 ∧ Below w.heap.size w wr) (fun _ iv _ => (m + 1) - (intOf iv).toNat)
          case atStart => exact ⟨0, 0, by omega, by omega, rfl, rfl, Lib.hid rfl, X0.out, B0.out⟩
          case round =>
            obtain ⟨k, q, hk, hq, rfl, rfl, hc, hx, hb⟩ := hrel
            have B := Lib.hid hb
            have X := Lib.hid hx
            clear hb hx
            have y1 := X.out.get 1 rfl
            have y2 := X.out.get 2 rfl
            have hl := X.out.lt
            by_cases hlt : k < (m + 1)
            · obtain ⟨x, hx⟩ := fget_of_lt (xs := l) (k := k) (by rw [HN.out]; exact hlt)
              obtain ⟨b2, off2, hA2, hbl2, ⟨e0, e1, e2, e3, e4, e5, e6⟩⟩ := dats_elem ((HS.out.below B.out (Nat.le_refl _)).more B.out.size) hx
              injection hA2 with hA2; injection hA2 with hb2 ho2; subst hb2 ho2
              have HX := Lib.hid hx
              clear hx
              obtain ⟨g0, g1, g2, g3, g4, g5, g6⟩ := x
              change World.cell? _ _ = some (.int .i64 g0) at e0
              change World.cell? _ _ = some (.int .i64 g1) at e1
              change World.cell? _ _ = some (.int .i64 g2) at e2
              change World.cell? _ _ = some (.bool g3) at e3
              change World.cell? _ _ = some (.bool g4) at e4
              change World.cell? _ _ = some (.bool g5) at e5
              change World.cell? _ _ = some (.string g6) at e6
              have hq1 := IntWalk.i64_in ((q : Int) + 1) (by omega)
              have BA := Lib.hid (B.out.alloc B.out.size (.cells #[.int .i64 g0, .int .i64 g1, .int .i64 g2, .bool g3, .bool g4, .bool g5, .string g6] 45))
              have XA := Lib.hid (X.out.alloc (.cells #[.int .i64 g0, .int .i64 g1, .int .i64 g2, .bool g3, .bool g4, .bool g5, .string g6] 45))
              cases g3 with
              | false =>
                have HC := Lib.hid ((cnt_no HX.out (by simp [begB]) : cntB d1 (l.take (k + 1)) = cntB d1 (l.take k)).trans hc.out)
                clear hc
                go_wp2
                go_roundw
                case rel => exact ⟨k + 1, q, by omega, by omega, by go_num, rfl, HC, XA.out, BA.out⟩
                case measure => simp [intOf]; omega
              | true =>
                cases g5 with
                | true =>
                  have HC := Lib.hid ((cnt_no HX.out (by simp [begB]) : cntB d1 (l.take (k + 1)) = cntB d1 (l.take k)).trans hc.out)
                  clear hc
                  go_wp2
                  go_roundw
                  case rel => exact ⟨k + 1, q, by omega, by omega, by go_num, rfl, HC, XA.out, BA.out⟩
                  case measure => simp [intOf]; omega
                | false =>
                  by_cases hst : g1 = d1
                  · subst hst
                    have HC := Lib.hid ((cnt_yes HX.out (by simp [begB]) : cntB g1 (l.take (k + 1)) = cntB g1 (l.take k) + 1).trans (by rw [hc.out]))
                    clear hc
                    go_wp2
                    go_roundw
                    case rel => exact ⟨k + 1, q + 1, by omega, by omega, by go_num, by go_num, HC, XA.out, BA.out⟩
                    case measure => simp [intOf]; omega
                  · have hst : (g1 == d1) = false := by simpa using hst
                    have HC := Lib.hid ((cnt_no HX.out (by simp [begB, hst]) : cntB d1 (l.take (k + 1)) = cntB d1 (l.take k)).trans hc.out)
                    clear hc
                    go_wp2
                    go_roundw
                    case rel => exact ⟨k + 1, q, by omega, by omega, by go_num, rfl, HC, XA.out, BA.out⟩
                    case measure => simp [intOf]; omega
            · have HC := Lib.hid ((by rw [← hc.out, List.take_of_length_le (by rw [HN.out]; omega)] : cntB d1 l = q))
              clear hc
              go_wp2
              go_ret
              exact ⟨ret_bool (by rw [← HV.out, HB.out]; simp [baseB, HC.out]), B.out⟩
    | false =>
      have HB := Lib.hid (follow_on HN.out HX.out ⟨d0, d1, d2, d3, d4, d5, d6⟩ rfl)
      cases d3 with
      | true =>
        go_enter Try.func63, Try.ntmps63
        go_wp2
        have X0 := Lib.hid (Blk.new w #[.int .i64 d0, .int .i64 d1, .int .i64 d2, .bool true, .bool d4, .bool d5, .string d6] 45)
        have B0 := Lib.hid ((Below.refl w.heap.size w).alloc (Nat.le_refl _) (.cells #[.int .i64 d0, .int .i64 d1, .int .i64 d2, .bool true, .bool d4, .bool d5, .string d6] 45))
        have q0 := X0.out.get 0 rfl
        have q1 := X0.out.get 1 rfl
        have q2 := X0.out.get 2 rfl
        have q3 := X0.out.get 3 rfl
        have q4 := X0.out.get 4 rfl
        have q5 := X0.out.get 5 rfl
        have q6 := X0.out.get 6 rfl
        have s0 := (B0.out.cell (p := ⟨b, off + m * 7, none⟩) hbl).trans z0
        have s1 := (B0.out.cell (p := ⟨b, off + m * 7 + 1, none⟩) hbl).trans z1
        have s2 := (B0.out.cell (p := ⟨b, off + m * 7 + 2, none⟩) hbl).trans z2
        have s3 := (B0.out.cell (p := ⟨b, off + m * 7 + 3, none⟩) hbl).trans z3
        have s4 := (B0.out.cell (p := ⟨b, off + m * 7 + 4, none⟩) hbl).trans z4
        have s5 := (B0.out.cell (p := ⟨b, off + m * 7 + 5, none⟩) hbl).trans z5
        have s6 := (B0.out.cell (p := ⟨b, off + m * 7 + 6, none⟩) hbl).trans z6
        refine wp_region_held_drew (S := fun w' => w'.cell? ⟨w.heap.size, 0, none⟩ = some (.int .i64 d0) ∧ w'.cell? ⟨w.heap.size, 1, none⟩ = some (.int .i64 d1) ∧ w'.cell? ⟨w.heap.size, 2, none⟩ = some (.int .i64 d2) ∧ w'.cell? ⟨w.heap.size, 3, none⟩ = some (.bool true) ∧ w'.cell? ⟨w.heap.size, 4, none⟩ = some (.bool d4) ∧ w'.cell? ⟨w.heap.size, 5, none⟩ = some (.bool d5) ∧ w'.cell? ⟨w.heap.size, 6, none⟩ = some (.string d6) ∧ w'.cell? ⟨b, off + m * 7, none⟩ = some (.int .i64 x0) ∧ w'.cell? ⟨b, off + m * 7 + 1, none⟩ = some (.int .i64 x1) ∧ w'.cell? ⟨b, off + m * 7 + 2, none⟩ = some (.int .i64 x2) ∧ w'.cell? ⟨b, off + m * 7 + 3, none⟩ = some (.bool x3) ∧ w'.cell? ⟨b, off + m * 7 + 4, none⟩ = some (.bool false) ∧ w'.cell? ⟨b, off + m * 7 + 5, none⟩ = some (.bool x5) ∧ w'.cell? ⟨b, off + m * 7 + 6, none⟩ = some (.string x6)) (by kernel_rfl) (by first | exact ⟨q0, q1, q2, q3, q4, q5, q6, s0, s1, s2, s3, s4, s5, s6⟩ | exact ⟨r0, r1, r2, r3, r4, r5, r6, t0, t1, t2, t3, t4, t5, t6⟩ | go_keep) (fun hHeld => ?_)
        refine wpAnyH_take (i := 0) (oi := ⟨some 21, _, _, _, _, _⟩) (v := ?_) rfl (by kernel_rfl) (by kernel_rfl) (by kernel_rfl) (fun _ _ _ h => h) (Or.inl ⟨by kernel_rfl, ?y1⟩) (by assumption) ?_
        case y1 => (intro w hSw; (try dsimp only at hSw); first | (go_simp; done) | (go_simp; with_reducible rfl))
        simp only [Act.put, List.setIfInBounds_toArray, List.set_cons_zero, List.set_cons_succ]
        refine wpAnyH_take (i := 1) (oi := ⟨some 22, _, _, _, _, _⟩) (v := ?_) rfl (by kernel_rfl) (by kernel_rfl) (by kernel_rfl) (fun _ _ _ h => h) (Or.inl ⟨by kernel_rfl, ?y2⟩) (by assumption) ?_
        case y2 => (intro w hSw; (try dsimp only at hSw); first | (go_simp; done) | (go_simp; with_reducible rfl))
        simp only [Act.put, List.setIfInBounds_toArray, List.set_cons_zero, List.set_cons_succ]
        refine wpAnyH_take (i := 2) (oi := ⟨some 23, _, _, _, _, _⟩) (v := ?_) rfl (by kernel_rfl) (by kernel_rfl) (by kernel_rfl) (fun _ _ _ h => h) (Or.inl ⟨by kernel_rfl, ?y3⟩) (by assumption) ?_
        case y3 => (intro w hSw; (try dsimp only at hSw); first | (go_simp; done) | (go_simp; with_reducible rfl))
        simp only [Act.put, List.setIfInBounds_toArray, List.set_cons_zero, List.set_cons_succ]
        refine wpAnyH_take (i := 3) (oi := ⟨some 24, _, _, _, _, _⟩) (v := ?_) rfl (by kernel_rfl) (by kernel_rfl) (by kernel_rfl) (fun _ _ _ h => h) (Or.inl ⟨by kernel_rfl, ?y4⟩) (by assumption) ?_
        case y4 => (intro w hSw; (try dsimp only at hSw); first | (go_simp; done) | (go_simp; with_reducible rfl))
        simp only [Act.put, List.setIfInBounds_toArray, List.set_cons_zero, List.set_cons_succ]
        refine wpAnyH_take (i := 4) (oi := ⟨some 25, _, _, _, _, _⟩) (v := undef) rfl (by kernel_rfl) (by kernel_rfl) (by kernel_rfl) (fun _ _ _ h => h) (Or.inr ⟨by kernel_rfl, rfl⟩) (by assumption) ?_
        simp only [Act.put, List.setIfInBounds_toArray, List.set_cons_zero, List.set_cons_succ]
        refine wpAnyH_take (i := 5) (oi := ⟨some 26, _, _, _, _, _⟩) (v := undef) rfl (by kernel_rfl) (by kernel_rfl) (by kernel_rfl) (fun _ _ _ h => h) (Or.inr ⟨by kernel_rfl, rfl⟩) (by assumption) ?_
        simp only [Act.put, List.setIfInBounds_toArray, List.set_cons_zero, List.set_cons_succ]
        refine wpAnyH_take (i := 6) (oi := ⟨some 27, _, _, _, _, _⟩) (v := undef) rfl (by kernel_rfl) (by kernel_rfl) (by kernel_rfl) (fun _ _ _ h => h) (Or.inr ⟨by kernel_rfl, rfl⟩) (by assumption) ?_
        simp only [Act.put, List.setIfInBounds_toArray, List.set_cons_zero, List.set_cons_succ]
        refine wpAnyH_take (i := 7) (oi := ⟨some 28, _, _, _, _, _⟩) (v := undef) rfl (by kernel_rfl) (by kernel_rfl) (by kernel_rfl) (fun _ _ _ h => h) (Or.inr ⟨by kernel_rfl, rfl⟩) (by assumption) ?_
        simp only [Act.put, List.setIfInBounds_toArray, List.set_cons_zero, List.set_cons_succ]
        refine wpAnyH_take (i := 8) (oi := ⟨some 29, _, _, _, _, _⟩) (v := undef) rfl (by kernel_rfl) (by kernel_rfl) (by kernel_rfl) (fun _ _ _ h => h) (Or.inr ⟨by kernel_rfl, rfl⟩) (by assumption) ?_
        simp only [Act.put, List.setIfInBounds_toArray, List.set_cons_zero, List.set_cons_succ]
        refine wpAnyH_take (i := 9) (oi := ⟨some 30, _, _, _, _, _⟩) (v := undef) rfl (by kernel_rfl) (by kernel_rfl) (by kernel_rfl) (fun _ _ _ h => h) (Or.inr ⟨by kernel_rfl, rfl⟩) (by assumption) ?_
        simp only [Act.put, List.setIfInBounds_toArray, List.set_cons_zero, List.set_cons_succ]
        refine wpAnyH_take (i := 10) (oi := ⟨some 31, _, _, _, _, _⟩) (v := undef) rfl (by kernel_rfl) (by kernel_rfl) (by kernel_rfl) (fun _ _ _ h => h) (Or.inr ⟨by kernel_rfl, rfl⟩) (by assumption) ?_
        simp only [Act.put, List.setIfInBounds_toArray, List.set_cons_zero, List.set_cons_succ]
        refine wpAnyH_take (i := 11) (oi := ⟨some 32, _, _, _, _, _⟩) (v := undef) rfl (by kernel_rfl) (by kernel_rfl) (by kernel_rfl) (fun _ _ _ h => h) (Or.inr ⟨by kernel_rfl, rfl⟩) (by assumption) ?_
        simp only [Act.put, List.setIfInBounds_toArray, List.set_cons_zero, List.set_cons_succ]
        refine wpAnyH_take (i := 12) (oi := ⟨some 33, _, _, _, _, _⟩) (v := ?_) rfl (by kernel_rfl) (by kernel_rfl) (by kernel_rfl) (fun _ _ _ h => h) (Or.inl ⟨by kernel_rfl, ?y5⟩) (by assumption) ?_
        case y5 => (intro w hSw; (try dsimp only at hSw); first | (go_simp; done) | (go_simp; with_reducible rfl))
        simp only [Act.put, List.setIfInBounds_toArray, List.set_cons_zero, List.set_cons_succ]
        refine wpAnyH_take (i := 13) (oi := ⟨some 4, _, _, _, _, _⟩) (v := ?_) rfl (by kernel_rfl) (by kernel_rfl) (by kernel_rfl) (fun _ _ _ h => h) (Or.inl ⟨by kernel_rfl, ?y6⟩) (by assumption) ?_
        case y6 => (intro w hSw; (try dsimp only at hSw); first | (go_simp; done) | (go_simp; with_reducible rfl))
        simp only [Act.put, List.setIfInBounds_toArray, List.set_cons_zero, List.set_cons_succ]
        refine wpAnyH_done (by kernel_rfl) ?_ _
        go_wp2
        go_ret
        exact ⟨ret_bool (by rw [← HV.out, HB.out]; rfl), B0.out.drew⟩
      | false =>
        go_enter Try.func63, Try.ntmps63
        go_wp2
        have X0 := Lib.hid (Blk.new w #[.int .i64 d0, .int .i64 d1, .int .i64 d2, .bool false, .bool d4, .bool d5, .string d6] 45)
        have B0 := Lib.hid ((Below.refl w.heap.size w).alloc (Nat.le_refl _) (.cells #[.int .i64 d0, .int .i64 d1, .int .i64 d2, .bool false, .bool d4, .bool d5, .string d6] 45))
        have q0 := X0.out.get 0 rfl
        have q1 := X0.out.get 1 rfl
        have q2 := X0.out.get 2 rfl
        have q3 := X0.out.get 3 rfl
        have q4 := X0.out.get 4 rfl
        have q5 := X0.out.get 5 rfl
        have q6 := X0.out.get 6 rfl
        have s0 := (B0.out.cell (p := ⟨b, off + m * 7, none⟩) hbl).trans z0
        have s1 := (B0.out.cell (p := ⟨b, off + m * 7 + 1, none⟩) hbl).trans z1
        have s2 := (B0.out.cell (p := ⟨b, off + m * 7 + 2, none⟩) hbl).trans z2
        have s3 := (B0.out.cell (p := ⟨b, off + m * 7 + 3, none⟩) hbl).trans z3
        have s4 := (B0.out.cell (p := ⟨b, off + m * 7 + 4, none⟩) hbl).trans z4
        have s5 := (B0.out.cell (p := ⟨b, off + m * 7 + 5, none⟩) hbl).trans z5
        have s6 := (B0.out.cell (p := ⟨b, off + m * 7 + 6, none⟩) hbl).trans z6
        refine wp_region_held_drew (S := fun w' => w'.cell? ⟨w.heap.size, 0, none⟩ = some (.int .i64 d0) ∧ w'.cell? ⟨w.heap.size, 1, none⟩ = some (.int .i64 d1) ∧ w'.cell? ⟨w.heap.size, 2, none⟩ = some (.int .i64 d2) ∧ w'.cell? ⟨w.heap.size, 3, none⟩ = some (.bool false) ∧ w'.cell? ⟨w.heap.size, 4, none⟩ = some (.bool d4) ∧ w'.cell? ⟨w.heap.size, 5, none⟩ = some (.bool d5) ∧ w'.cell? ⟨w.heap.size, 6, none⟩ = some (.string d6) ∧ w'.cell? ⟨b, off + m * 7, none⟩ = some (.int .i64 x0) ∧ w'.cell? ⟨b, off + m * 7 + 1, none⟩ = some (.int .i64 x1) ∧ w'.cell? ⟨b, off + m * 7 + 2, none⟩ = some (.int .i64 x2) ∧ w'.cell? ⟨b, off + m * 7 + 3, none⟩ = some (.bool x3) ∧ w'.cell? ⟨b, off + m * 7 + 4, none⟩ = some (.bool false) ∧ w'.cell? ⟨b, off + m * 7 + 5, none⟩ = some (.bool x5) ∧ w'.cell? ⟨b, off + m * 7 + 6, none⟩ = some (.string x6)) (by kernel_rfl) (by first | exact ⟨q0, q1, q2, q3, q4, q5, q6, s0, s1, s2, s3, s4, s5, s6⟩ | exact ⟨r0, r1, r2, r3, r4, r5, r6, t0, t1, t2, t3, t4, t5, t6⟩ | go_keep) (fun hHeld => ?_)
        refine wpAnyH_take (i := 0) (oi := ⟨some 21, _, _, _, _, _⟩) (v := ?_) rfl (by kernel_rfl) (by kernel_rfl) (by kernel_rfl) (fun _ _ _ h => h) (Or.inl ⟨by kernel_rfl, ?y7⟩) (by assumption) ?_
        case y7 => (intro w hSw; (try dsimp only at hSw); first | (go_simp; done) | (go_simp; with_reducible rfl))
        simp only [Act.put, List.setIfInBounds_toArray, List.set_cons_zero, List.set_cons_succ]
        refine wpAnyH_take (i := 1) (oi := ⟨some 22, _, _, _, _, _⟩) (v := ?_) rfl (by kernel_rfl) (by kernel_rfl) (by kernel_rfl) (fun _ _ _ h => h) (Or.inl ⟨by kernel_rfl, ?y8⟩) (by assumption) ?_
        case y8 => (intro w hSw; (try dsimp only at hSw); first | (go_simp; done) | (go_simp; with_reducible rfl))
        simp only [Act.put, List.setIfInBounds_toArray, List.set_cons_zero, List.set_cons_succ]
        refine wpAnyH_take (i := 2) (oi := ⟨some 23, _, _, _, _, _⟩) (v := ?_) rfl (by kernel_rfl) (by kernel_rfl) (by kernel_rfl) (fun _ _ _ h => h) (Or.inl ⟨by kernel_rfl, ?y9⟩) (by assumption) ?_
        case y9 => (intro w hSw; (try dsimp only at hSw); first | (go_simp; done) | (go_simp; with_reducible rfl))
        simp only [Act.put, List.setIfInBounds_toArray, List.set_cons_zero, List.set_cons_succ]
        refine wpAnyH_take (i := 3) (oi := ⟨some 24, _, _, _, _, _⟩) (v := ?_) rfl (by kernel_rfl) (by kernel_rfl) (by kernel_rfl) (fun _ _ _ h => h) (Or.inl ⟨by kernel_rfl, ?y10⟩) (by assumption) ?_
        case y10 => (intro w hSw; (try dsimp only at hSw); first | (go_simp; done) | (go_simp; with_reducible rfl))
        simp only [Act.put, List.setIfInBounds_toArray, List.set_cons_zero, List.set_cons_succ]
        refine wpAnyH_take (i := 4) (oi := ⟨some 25, _, _, _, _, _⟩) (v := ?_) rfl (by kernel_rfl) (by kernel_rfl) (by kernel_rfl) (fun _ _ _ h => h) (Or.inl ⟨by kernel_rfl, ?y11⟩) (by assumption) ?_
        case y11 => (intro w hSw; (try dsimp only at hSw); first | (go_simp; done) | (go_simp; with_reducible rfl))
        simp only [Act.put, List.setIfInBounds_toArray, List.set_cons_zero, List.set_cons_succ]
        refine wpAnyH_take (i := 5) (oi := ⟨some 26, _, _, _, _, _⟩) (v := ?_) rfl (by kernel_rfl) (by kernel_rfl) (by kernel_rfl) (fun _ _ _ h => h) (Or.inl ⟨by kernel_rfl, ?y12⟩) (by assumption) ?_
        case y12 => (intro w hSw; (try dsimp only at hSw); first | (go_simp; done) | (go_simp; with_reducible rfl))
        simp only [Act.put, List.setIfInBounds_toArray, List.set_cons_zero, List.set_cons_succ]
        refine wpAnyH_take (i := 6) (oi := ⟨some 27, _, _, _, _, _⟩) (v := ?_) rfl (by kernel_rfl) (by kernel_rfl) (by kernel_rfl) (fun _ _ _ h => h) (Or.inl ⟨by kernel_rfl, ?y13⟩) (by assumption) ?_
        case y13 => (intro w hSw; (try dsimp only at hSw); first | (go_simp; done) | (go_simp; with_reducible rfl))
        simp only [Act.put, List.setIfInBounds_toArray, List.set_cons_zero, List.set_cons_succ]
        refine wpAnyH_take (i := 7) (oi := ⟨some 28, _, _, _, _, _⟩) (v := ?_) rfl (by kernel_rfl) (by kernel_rfl) (by kernel_rfl) (fun _ _ _ h => h) (Or.inl ⟨by kernel_rfl, ?y14⟩) (by assumption) ?_
        case y14 => (intro w hSw; (try dsimp only at hSw); first | (go_simp; done) | (go_simp; with_reducible rfl))
        simp only [Act.put, List.setIfInBounds_toArray, List.set_cons_zero, List.set_cons_succ]
        refine wpAnyH_take (i := 8) (oi := ⟨some 29, _, _, _, _, _⟩) (v := ?_) rfl (by kernel_rfl) (by kernel_rfl) (by kernel_rfl) (fun _ _ _ h => h) (Or.inl ⟨by kernel_rfl, ?y15⟩) (by assumption) ?_
        case y15 => (intro w hSw; (try dsimp only at hSw); first | (go_simp; done) | (go_simp; with_reducible rfl))
        simp only [Act.put, List.setIfInBounds_toArray, List.set_cons_zero, List.set_cons_succ]
        refine wpAnyH_take (i := 9) (oi := ⟨some 30, _, _, _, _, _⟩) (v := ?_) rfl (by kernel_rfl) (by kernel_rfl) (by kernel_rfl) (fun _ _ _ h => h) (Or.inl ⟨by kernel_rfl, ?y16⟩) (by assumption) ?_
        case y16 => (intro w hSw; (try dsimp only at hSw); first | (go_simp; done) | (go_simp; with_reducible rfl))
        simp only [Act.put, List.setIfInBounds_toArray, List.set_cons_zero, List.set_cons_succ]
        refine wpAnyH_take (i := 10) (oi := ⟨some 31, _, _, _, _, _⟩) (v := ?_) rfl (by kernel_rfl) (by kernel_rfl) (by kernel_rfl) (fun _ _ _ h => h) (Or.inl ⟨by kernel_rfl, ?y17⟩) (by assumption) ?_
        case y17 => (intro w hSw; (try dsimp only at hSw); first | (go_simp; done) | (go_simp; with_reducible rfl))
        simp only [Act.put, List.setIfInBounds_toArray, List.set_cons_zero, List.set_cons_succ]
        refine wpAnyH_ready (rs := [11]) (by kernel_rfl) (by simp) ?_
        refine AllReadyH.cons (o := ⟨some 32, _, _, _, _, _⟩) rfl (fun K hK => ?_) AllReadyH.nil
        go_simp
        (go_at_call 65; (with_reducible refine (ilike_any rfl _).mono ?_); rintro e w5 ⟨rfl, b5⟩; have X5 := Lib.hid (X0.out.drew.below b5 X0.out.drew.lt); have B5 := Lib.hid (bstep B0.out.drew b5 B0.out.size); have r0 := X5.out.get 0 rfl; have r1 := X5.out.get 1 rfl; have r2 := X5.out.get 2 rfl; have r3 := X5.out.get 3 rfl; have r4 := X5.out.get 4 rfl; have r5 := X5.out.get 5 rfl; have r6 := X5.out.get 6 rfl; have t0 := (B5.out.cell (p := ⟨b, off + m * 7, none⟩) hbl).trans z0; have t1 := (B5.out.cell (p := ⟨b, off + m * 7 + 1, none⟩) hbl).trans z1; have t2 := (B5.out.cell (p := ⟨b, off + m * 7 + 2, none⟩) hbl).trans z2; have t3 := (B5.out.cell (p := ⟨b, off + m * 7 + 3, none⟩) hbl).trans z3; have t4 := (B5.out.cell (p := ⟨b, off + m * 7 + 4, none⟩) hbl).trans z4; have t5 := (B5.out.cell (p := ⟨b, off + m * 7 + 5, none⟩) hbl).trans z5; have t6 := (B5.out.cell (p := ⟨b, off + m * 7 + 6, none⟩) hbl).trans z6; clear b5)
        first | go_wp2_with fail | skip
        refine hK.out _ _ (by first | exact ⟨q0, q1, q2, q3, q4, q5, q6, s0, s1, s2, s3, s4, s5, s6⟩ | exact ⟨r0, r1, r2, r3, r4, r5, r6, t0, t1, t2, t3, t4, t5, t6⟩ | go_keep) (fun hHeld => ?_)
        clear hK K
        try simp only [Act.put, List.setIfInBounds_toArray, List.set_cons_zero, List.set_cons_succ]
        refine wpAnyH_take (i := 12) (oi := ⟨some 33, _, _, _, _, _⟩) (v := ?_) rfl (by kernel_rfl) (by kernel_rfl) (by kernel_rfl) (fun _ _ _ h => h) (Or.inl ⟨by kernel_rfl, ?y18⟩) (by assumption) ?_
        case y18 => (intro w hSw; (try dsimp only at hSw); first | (go_simp; done) | (go_simp; with_reducible rfl))
        simp only [Act.put, List.setIfInBounds_toArray, List.set_cons_zero, List.set_cons_succ]
        refine wpAnyH_take (i := 13) (oi := ⟨some 4, _, _, _, _, _⟩) (v := ?_) rfl (by kernel_rfl) (by kernel_rfl) (by kernel_rfl) (fun _ _ _ h => h) (Or.inl ⟨by kernel_rfl, ?y19⟩) (by assumption) ?_
        case y19 => (intro w hSw; (try dsimp only at hSw); first | (go_simp; done) | (go_simp; with_reducible rfl))
        simp only [Act.put, List.setIfInBounds_toArray, List.set_cons_zero, List.set_cons_succ]
        refine wpAnyH_done (by kernel_rfl) ?_ _
        go_wp2
        go_ret
        exact ⟨ret_bool (by rw [← HV.out, HB.out]; rfl), B5.out⟩
set_option maxHeartbeats 3200000 in
theorem smay_any (A : Option Addr) (n c : Nat) (l : List Dat) {d0 d1 d2 : Int} {d3 d4 d5 : Bool} {d6 : ByteArray} {v : Bool} (hv : followB l ⟨d0, d1, d2, d3, d4, d5, d6⟩ = v) (w : World) (hs : Sl w w.heap.size A (dats l)) (hn : l.length = n) (hm : n ≤ 9223372036854775807) :
    Calls Try.prog 62 #[.slice A n c, .agg #[.int .i64 d0, .int .i64 d1, .int .i64 d2, .bool d3, .bool d4, .bool d5, .string d6]] w fun e w' => e = .returned (.bool v) ∧ Below w.heap.size w w' := by
  have HS := Lib.hid hs; have HN := Lib.hid hn; have HV := Lib.hid hv; clear hs hn hv
  rcases Nat.eq_zero_or_pos n with hn0 | hn0
  · subst hn0
    have hl0 : l = [] := List.eq_nil_of_length_eq_zero HN.out
    have HB := Lib.hid (by rw [hl0]; rfl : followB l ⟨d0, d1, d2, d3, d4, d5, d6⟩ = baseB l ⟨d0, d1, d2, d3, d4, d5, d6⟩)
    clear hl0
    cases d3 with
    | false =>
      go_enter Try.func62, Try.ntmps62
      go_wp2
      have X0 := Lib.hid (Blk.new w #[.int .i64 d0, .int .i64 d1, .int .i64 d2, .bool false, .bool d4, .bool d5, .string d6] 45)
      have B0 := Lib.hid ((Below.refl w.heap.size w).alloc (Nat.le_refl _) (.cells #[.int .i64 d0, .int .i64 d1, .int .i64 d2, .bool false, .bool d4, .bool d5, .string d6] 45))
      have q0 := X0.out.get 0 rfl
      have q1 := X0.out.get 1 rfl
      have q2 := X0.out.get 2 rfl
      have q3 := X0.out.get 3 rfl
      have q4 := X0.out.get 4 rfl
      have q5 := X0.out.get 5 rfl
      have q6 := X0.out.get 6 rfl
      refine wp_region_held_drew (S := fun w' => w'.cell? ⟨w.heap.size, 0, none⟩ = some (.int .i64 d0) ∧ w'.cell? ⟨w.heap.size, 1, none⟩ = some (.int .i64 d1) ∧ w'.cell? ⟨w.heap.size, 2, none⟩ = some (.int .i64 d2) ∧ w'.cell? ⟨w.heap.size, 3, none⟩ = some (.bool false) ∧ w'.cell? ⟨w.heap.size, 4, none⟩ = some (.bool d4) ∧ w'.cell? ⟨w.heap.size, 5, none⟩ = some (.bool d5) ∧ w'.cell? ⟨w.heap.size, 6, none⟩ = some (.string d6)) (by kernel_rfl) (by first | exact ⟨q0, q1, q2, q3, q4, q5, q6⟩ | exact ⟨r0, r1, r2, r3, r4, r5, r6⟩ | go_keep) (fun hHeld => ?_)
      refine wpAnyH_take (i := 0) (oi := ⟨some 31, _, _, _, _, _⟩) (v := ?_) rfl (by kernel_rfl) (by kernel_rfl) (by kernel_rfl) (fun _ _ _ h => h) (Or.inl ⟨by kernel_rfl, ?y20⟩) (by assumption) ?_
      case y20 => (intro w hSw; (try dsimp only at hSw); first | (go_simp; done) | (go_simp; with_reducible rfl))
      simp only [Act.put, List.setIfInBounds_toArray, List.set_cons_zero, List.set_cons_succ]
      refine wpAnyH_take (i := 1) (oi := ⟨some 32, _, _, _, _, _⟩) (v := ?_) rfl (by kernel_rfl) (by kernel_rfl) (by kernel_rfl) (fun _ _ _ h => h) (Or.inl ⟨by kernel_rfl, ?y21⟩) (by assumption) ?_
      case y21 => (intro w hSw; (try dsimp only at hSw); first | (go_simp; done) | (go_simp; with_reducible rfl))
      simp only [Act.put, List.setIfInBounds_toArray, List.set_cons_zero, List.set_cons_succ]
      refine wpAnyH_take (i := 2) (oi := ⟨some 33, _, _, _, _, _⟩) (v := ?_) rfl (by kernel_rfl) (by kernel_rfl) (by kernel_rfl) (fun _ _ _ h => h) (Or.inl ⟨by kernel_rfl, ?y22⟩) (by assumption) ?_
      case y22 => (intro w hSw; (try dsimp only at hSw); first | (go_simp; done) | (go_simp; with_reducible rfl))
      simp only [Act.put, List.setIfInBounds_toArray, List.set_cons_zero, List.set_cons_succ]
      refine wpAnyH_take (i := 3) (oi := ⟨some 34, _, _, _, _, _⟩) (v := undef) rfl (by kernel_rfl) (by kernel_rfl) (by kernel_rfl) (fun _ _ _ h => h) (Or.inr ⟨by kernel_rfl, rfl⟩) (by assumption) ?_
      simp only [Act.put, List.setIfInBounds_toArray, List.set_cons_zero, List.set_cons_succ]
      refine wpAnyH_take (i := 4) (oi := ⟨some 35, _, _, _, _, _⟩) (v := undef) rfl (by kernel_rfl) (by kernel_rfl) (by kernel_rfl) (fun _ _ _ h => h) (Or.inr ⟨by kernel_rfl, rfl⟩) (by assumption) ?_
      simp only [Act.put, List.setIfInBounds_toArray, List.set_cons_zero, List.set_cons_succ]
      refine wpAnyH_take (i := 5) (oi := ⟨some 36, _, _, _, _, _⟩) (v := undef) rfl (by kernel_rfl) (by kernel_rfl) (by kernel_rfl) (fun _ _ _ h => h) (Or.inr ⟨by kernel_rfl, rfl⟩) (by assumption) ?_
      simp only [Act.put, List.setIfInBounds_toArray, List.set_cons_zero, List.set_cons_succ]
      refine wpAnyH_take (i := 6) (oi := ⟨some 37, _, _, _, _, _⟩) (v := undef) rfl (by kernel_rfl) (by kernel_rfl) (by kernel_rfl) (fun _ _ _ h => h) (Or.inr ⟨by kernel_rfl, rfl⟩) (by assumption) ?_
      simp only [Act.put, List.setIfInBounds_toArray, List.set_cons_zero, List.set_cons_succ]
      refine wpAnyH_take (i := 7) (oi := ⟨some 38, _, _, _, _, _⟩) (v := undef) rfl (by kernel_rfl) (by kernel_rfl) (by kernel_rfl) (fun _ _ _ h => h) (Or.inr ⟨by kernel_rfl, rfl⟩) (by assumption) ?_
      simp only [Act.put, List.setIfInBounds_toArray, List.set_cons_zero, List.set_cons_succ]
      refine wpAnyH_take (i := 8) (oi := ⟨some 39, _, _, _, _, _⟩) (v := undef) rfl (by kernel_rfl) (by kernel_rfl) (by kernel_rfl) (fun _ _ _ h => h) (Or.inr ⟨by kernel_rfl, rfl⟩) (by assumption) ?_
      simp only [Act.put, List.setIfInBounds_toArray, List.set_cons_zero, List.set_cons_succ]
      refine wpAnyH_take (i := 9) (oi := ⟨some 40, _, _, _, _, _⟩) (v := undef) rfl (by kernel_rfl) (by kernel_rfl) (by kernel_rfl) (fun _ _ _ h => h) (Or.inr ⟨by kernel_rfl, rfl⟩) (by assumption) ?_
      simp only [Act.put, List.setIfInBounds_toArray, List.set_cons_zero, List.set_cons_succ]
      refine wpAnyH_take (i := 10) (oi := ⟨some 41, _, _, _, _, _⟩) (v := undef) rfl (by kernel_rfl) (by kernel_rfl) (by kernel_rfl) (fun _ _ _ h => h) (Or.inr ⟨by kernel_rfl, rfl⟩) (by assumption) ?_
      simp only [Act.put, List.setIfInBounds_toArray, List.set_cons_zero, List.set_cons_succ]
      refine wpAnyH_take (i := 11) (oi := ⟨some 42, _, _, _, _, _⟩) (v := undef) rfl (by kernel_rfl) (by kernel_rfl) (by kernel_rfl) (fun _ _ _ h => h) (Or.inr ⟨by kernel_rfl, rfl⟩) (by assumption) ?_
      simp only [Act.put, List.setIfInBounds_toArray, List.set_cons_zero, List.set_cons_succ]
      refine wpAnyH_take (i := 12) (oi := ⟨some 43, _, _, _, _, _⟩) (v := undef) rfl (by kernel_rfl) (by kernel_rfl) (by kernel_rfl) (fun _ _ _ h => h) (Or.inr ⟨by kernel_rfl, rfl⟩) (by assumption) ?_
      simp only [Act.put, List.setIfInBounds_toArray, List.set_cons_zero, List.set_cons_succ]
      refine wpAnyH_take (i := 13) (oi := ⟨some 44, _, _, _, _, _⟩) (v := undef) rfl (by kernel_rfl) (by kernel_rfl) (by kernel_rfl) (fun _ _ _ h => h) (Or.inr ⟨by kernel_rfl, rfl⟩) (by assumption) ?_
      simp only [Act.put, List.setIfInBounds_toArray, List.set_cons_zero, List.set_cons_succ]
      refine wpAnyH_take (i := 14) (oi := ⟨some 45, _, _, _, _, _⟩) (v := ?_) rfl (by kernel_rfl) (by kernel_rfl) (by kernel_rfl) (fun _ _ _ h => h) (Or.inl ⟨by kernel_rfl, ?y23⟩) (by assumption) ?_
      case y23 => (intro w hSw; (try dsimp only at hSw); first | (go_simp; done) | (go_simp; with_reducible rfl))
      simp only [Act.put, List.setIfInBounds_toArray, List.set_cons_zero, List.set_cons_succ]
      refine wpAnyH_take (i := 15) (oi := ⟨some 4, _, _, _, _, _⟩) (v := ?_) rfl (by kernel_rfl) (by kernel_rfl) (by kernel_rfl) (fun _ _ _ h => h) (Or.inl ⟨by kernel_rfl, ?y24⟩) (by assumption) ?_
      case y24 => (intro w hSw; (try dsimp only at hSw); first | (go_simp; done) | (go_simp; with_reducible rfl))
      simp only [Act.put, List.setIfInBounds_toArray, List.set_cons_zero, List.set_cons_succ]
      refine wpAnyH_done (by kernel_rfl) ?_ _
      go_wp2
      go_ret
      exact ⟨ret_bool (by rw [← HV.out, HB.out]; simp [baseB]), B0.out.drew⟩
    | true =>
      cases d5 with
      | true =>
        go_enter Try.func62, Try.ntmps62
        go_wp2
        have X0 := Lib.hid (Blk.new w #[.int .i64 d0, .int .i64 d1, .int .i64 d2, .bool true, .bool d4, .bool true, .string d6] 45)
        have B0 := Lib.hid ((Below.refl w.heap.size w).alloc (Nat.le_refl _) (.cells #[.int .i64 d0, .int .i64 d1, .int .i64 d2, .bool true, .bool d4, .bool true, .string d6] 45))
        have q0 := X0.out.get 0 rfl
        have q1 := X0.out.get 1 rfl
        have q2 := X0.out.get 2 rfl
        have q3 := X0.out.get 3 rfl
        have q4 := X0.out.get 4 rfl
        have q5 := X0.out.get 5 rfl
        have q6 := X0.out.get 6 rfl
        refine wp_region_held_drew (S := fun w' => w'.cell? ⟨w.heap.size, 0, none⟩ = some (.int .i64 d0) ∧ w'.cell? ⟨w.heap.size, 1, none⟩ = some (.int .i64 d1) ∧ w'.cell? ⟨w.heap.size, 2, none⟩ = some (.int .i64 d2) ∧ w'.cell? ⟨w.heap.size, 3, none⟩ = some (.bool true) ∧ w'.cell? ⟨w.heap.size, 4, none⟩ = some (.bool d4) ∧ w'.cell? ⟨w.heap.size, 5, none⟩ = some (.bool true) ∧ w'.cell? ⟨w.heap.size, 6, none⟩ = some (.string d6)) (by kernel_rfl) (by first | exact ⟨q0, q1, q2, q3, q4, q5, q6⟩ | exact ⟨r0, r1, r2, r3, r4, r5, r6⟩ | go_keep) (fun hHeld => ?_)
        refine wpAnyH_take (i := 0) (oi := ⟨some 31, _, _, _, _, _⟩) (v := ?_) rfl (by kernel_rfl) (by kernel_rfl) (by kernel_rfl) (fun _ _ _ h => h) (Or.inl ⟨by kernel_rfl, ?y25⟩) (by assumption) ?_
        case y25 => (intro w hSw; (try dsimp only at hSw); first | (go_simp; done) | (go_simp; with_reducible rfl))
        simp only [Act.put, List.setIfInBounds_toArray, List.set_cons_zero, List.set_cons_succ]
        refine wpAnyH_take (i := 1) (oi := ⟨some 32, _, _, _, _, _⟩) (v := ?_) rfl (by kernel_rfl) (by kernel_rfl) (by kernel_rfl) (fun _ _ _ h => h) (Or.inl ⟨by kernel_rfl, ?y26⟩) (by assumption) ?_
        case y26 => (intro w hSw; (try dsimp only at hSw); first | (go_simp; done) | (go_simp; with_reducible rfl))
        simp only [Act.put, List.setIfInBounds_toArray, List.set_cons_zero, List.set_cons_succ]
        refine wpAnyH_take (i := 2) (oi := ⟨some 33, _, _, _, _, _⟩) (v := ?_) rfl (by kernel_rfl) (by kernel_rfl) (by kernel_rfl) (fun _ _ _ h => h) (Or.inl ⟨by kernel_rfl, ?y27⟩) (by assumption) ?_
        case y27 => (intro w hSw; (try dsimp only at hSw); first | (go_simp; done) | (go_simp; with_reducible rfl))
        simp only [Act.put, List.setIfInBounds_toArray, List.set_cons_zero, List.set_cons_succ]
        refine wpAnyH_take (i := 3) (oi := ⟨some 34, _, _, _, _, _⟩) (v := ?_) rfl (by kernel_rfl) (by kernel_rfl) (by kernel_rfl) (fun _ _ _ h => h) (Or.inl ⟨by kernel_rfl, ?y28⟩) (by assumption) ?_
        case y28 => (intro w hSw; (try dsimp only at hSw); first | (go_simp; done) | (go_simp; with_reducible rfl))
        simp only [Act.put, List.setIfInBounds_toArray, List.set_cons_zero, List.set_cons_succ]
        refine wpAnyH_take (i := 4) (oi := ⟨some 35, _, _, _, _, _⟩) (v := ?_) rfl (by kernel_rfl) (by kernel_rfl) (by kernel_rfl) (fun _ _ _ h => h) (Or.inl ⟨by kernel_rfl, ?y29⟩) (by assumption) ?_
        case y29 => (intro w hSw; (try dsimp only at hSw); first | (go_simp; done) | (go_simp; with_reducible rfl))
        simp only [Act.put, List.setIfInBounds_toArray, List.set_cons_zero, List.set_cons_succ]
        refine wpAnyH_take (i := 5) (oi := ⟨some 36, _, _, _, _, _⟩) (v := ?_) rfl (by kernel_rfl) (by kernel_rfl) (by kernel_rfl) (fun _ _ _ h => h) (Or.inl ⟨by kernel_rfl, ?y30⟩) (by assumption) ?_
        case y30 => (intro w hSw; (try dsimp only at hSw); first | (go_simp; done) | (go_simp; with_reducible rfl))
        simp only [Act.put, List.setIfInBounds_toArray, List.set_cons_zero, List.set_cons_succ]
        refine wpAnyH_take (i := 6) (oi := ⟨some 37, _, _, _, _, _⟩) (v := undef) rfl (by kernel_rfl) (by kernel_rfl) (by kernel_rfl) (fun _ _ _ h => h) (Or.inr ⟨by kernel_rfl, rfl⟩) (by assumption) ?_
        simp only [Act.put, List.setIfInBounds_toArray, List.set_cons_zero, List.set_cons_succ]
        refine wpAnyH_take (i := 7) (oi := ⟨some 38, _, _, _, _, _⟩) (v := undef) rfl (by kernel_rfl) (by kernel_rfl) (by kernel_rfl) (fun _ _ _ h => h) (Or.inr ⟨by kernel_rfl, rfl⟩) (by assumption) ?_
        simp only [Act.put, List.setIfInBounds_toArray, List.set_cons_zero, List.set_cons_succ]
        refine wpAnyH_take (i := 8) (oi := ⟨some 39, _, _, _, _, _⟩) (v := undef) rfl (by kernel_rfl) (by kernel_rfl) (by kernel_rfl) (fun _ _ _ h => h) (Or.inr ⟨by kernel_rfl, rfl⟩) (by assumption) ?_
        simp only [Act.put, List.setIfInBounds_toArray, List.set_cons_zero, List.set_cons_succ]
        refine wpAnyH_take (i := 9) (oi := ⟨some 40, _, _, _, _, _⟩) (v := undef) rfl (by kernel_rfl) (by kernel_rfl) (by kernel_rfl) (fun _ _ _ h => h) (Or.inr ⟨by kernel_rfl, rfl⟩) (by assumption) ?_
        simp only [Act.put, List.setIfInBounds_toArray, List.set_cons_zero, List.set_cons_succ]
        refine wpAnyH_take (i := 10) (oi := ⟨some 41, _, _, _, _, _⟩) (v := undef) rfl (by kernel_rfl) (by kernel_rfl) (by kernel_rfl) (fun _ _ _ h => h) (Or.inr ⟨by kernel_rfl, rfl⟩) (by assumption) ?_
        simp only [Act.put, List.setIfInBounds_toArray, List.set_cons_zero, List.set_cons_succ]
        refine wpAnyH_take (i := 11) (oi := ⟨some 42, _, _, _, _, _⟩) (v := undef) rfl (by kernel_rfl) (by kernel_rfl) (by kernel_rfl) (fun _ _ _ h => h) (Or.inr ⟨by kernel_rfl, rfl⟩) (by assumption) ?_
        simp only [Act.put, List.setIfInBounds_toArray, List.set_cons_zero, List.set_cons_succ]
        refine wpAnyH_take (i := 12) (oi := ⟨some 43, _, _, _, _, _⟩) (v := undef) rfl (by kernel_rfl) (by kernel_rfl) (by kernel_rfl) (fun _ _ _ h => h) (Or.inr ⟨by kernel_rfl, rfl⟩) (by assumption) ?_
        simp only [Act.put, List.setIfInBounds_toArray, List.set_cons_zero, List.set_cons_succ]
        refine wpAnyH_take (i := 13) (oi := ⟨some 44, _, _, _, _, _⟩) (v := ?_) rfl (by kernel_rfl) (by kernel_rfl) (by kernel_rfl) (fun _ _ _ h => h) (Or.inl ⟨by kernel_rfl, ?y31⟩) (by assumption) ?_
        case y31 => (intro w hSw; (try dsimp only at hSw); first | (go_simp; done) | (go_simp; with_reducible rfl))
        simp only [Act.put, List.setIfInBounds_toArray, List.set_cons_zero, List.set_cons_succ]
        refine wpAnyH_take (i := 14) (oi := ⟨some 45, _, _, _, _, _⟩) (v := ?_) rfl (by kernel_rfl) (by kernel_rfl) (by kernel_rfl) (fun _ _ _ h => h) (Or.inl ⟨by kernel_rfl, ?y32⟩) (by assumption) ?_
        case y32 => (intro w hSw; (try dsimp only at hSw); first | (go_simp; done) | (go_simp; with_reducible rfl))
        simp only [Act.put, List.setIfInBounds_toArray, List.set_cons_zero, List.set_cons_succ]
        refine wpAnyH_take (i := 15) (oi := ⟨some 4, _, _, _, _, _⟩) (v := ?_) rfl (by kernel_rfl) (by kernel_rfl) (by kernel_rfl) (fun _ _ _ h => h) (Or.inl ⟨by kernel_rfl, ?y33⟩) (by assumption) ?_
        case y33 => (intro w hSw; (try dsimp only at hSw); first | (go_simp; done) | (go_simp; with_reducible rfl))
        simp only [Act.put, List.setIfInBounds_toArray, List.set_cons_zero, List.set_cons_succ]
        refine wpAnyH_done (by kernel_rfl) ?_ _
        go_wp2
        go_ret
        exact ⟨ret_bool (by rw [← HV.out, HB.out]; simp [baseB]), B0.out.drew⟩
      | false =>
        go_enter Try.func62, Try.ntmps62
        go_wp2
        have X0 := Lib.hid (Blk.new w #[.int .i64 d0, .int .i64 d1, .int .i64 d2, .bool true, .bool d4, .bool false, .string d6] 45)
        have B0 := Lib.hid ((Below.refl w.heap.size w).alloc (Nat.le_refl _) (.cells #[.int .i64 d0, .int .i64 d1, .int .i64 d2, .bool true, .bool d4, .bool false, .string d6] 45))
        have q0 := X0.out.get 0 rfl
        have q1 := X0.out.get 1 rfl
        have q2 := X0.out.get 2 rfl
        have q3 := X0.out.get 3 rfl
        have q4 := X0.out.get 4 rfl
        have q5 := X0.out.get 5 rfl
        have q6 := X0.out.get 6 rfl
        refine wp_region_held_drew (S := fun w' => w'.cell? ⟨w.heap.size, 0, none⟩ = some (.int .i64 d0) ∧ w'.cell? ⟨w.heap.size, 1, none⟩ = some (.int .i64 d1) ∧ w'.cell? ⟨w.heap.size, 2, none⟩ = some (.int .i64 d2) ∧ w'.cell? ⟨w.heap.size, 3, none⟩ = some (.bool true) ∧ w'.cell? ⟨w.heap.size, 4, none⟩ = some (.bool d4) ∧ w'.cell? ⟨w.heap.size, 5, none⟩ = some (.bool false) ∧ w'.cell? ⟨w.heap.size, 6, none⟩ = some (.string d6)) (by kernel_rfl) (by first | exact ⟨q0, q1, q2, q3, q4, q5, q6⟩ | exact ⟨r0, r1, r2, r3, r4, r5, r6⟩ | go_keep) (fun hHeld => ?_)
        refine wpAnyH_take (i := 0) (oi := ⟨some 31, _, _, _, _, _⟩) (v := ?_) rfl (by kernel_rfl) (by kernel_rfl) (by kernel_rfl) (fun _ _ _ h => h) (Or.inl ⟨by kernel_rfl, ?y34⟩) (by assumption) ?_
        case y34 => (intro w hSw; (try dsimp only at hSw); first | (go_simp; done) | (go_simp; with_reducible rfl))
        simp only [Act.put, List.setIfInBounds_toArray, List.set_cons_zero, List.set_cons_succ]
        refine wpAnyH_take (i := 1) (oi := ⟨some 32, _, _, _, _, _⟩) (v := ?_) rfl (by kernel_rfl) (by kernel_rfl) (by kernel_rfl) (fun _ _ _ h => h) (Or.inl ⟨by kernel_rfl, ?y35⟩) (by assumption) ?_
        case y35 => (intro w hSw; (try dsimp only at hSw); first | (go_simp; done) | (go_simp; with_reducible rfl))
        simp only [Act.put, List.setIfInBounds_toArray, List.set_cons_zero, List.set_cons_succ]
        refine wpAnyH_take (i := 2) (oi := ⟨some 33, _, _, _, _, _⟩) (v := ?_) rfl (by kernel_rfl) (by kernel_rfl) (by kernel_rfl) (fun _ _ _ h => h) (Or.inl ⟨by kernel_rfl, ?y36⟩) (by assumption) ?_
        case y36 => (intro w hSw; (try dsimp only at hSw); first | (go_simp; done) | (go_simp; with_reducible rfl))
        simp only [Act.put, List.setIfInBounds_toArray, List.set_cons_zero, List.set_cons_succ]
        refine wpAnyH_take (i := 3) (oi := ⟨some 34, _, _, _, _, _⟩) (v := ?_) rfl (by kernel_rfl) (by kernel_rfl) (by kernel_rfl) (fun _ _ _ h => h) (Or.inl ⟨by kernel_rfl, ?y37⟩) (by assumption) ?_
        case y37 => (intro w hSw; (try dsimp only at hSw); first | (go_simp; done) | (go_simp; with_reducible rfl))
        simp only [Act.put, List.setIfInBounds_toArray, List.set_cons_zero, List.set_cons_succ]
        refine wpAnyH_take (i := 4) (oi := ⟨some 35, _, _, _, _, _⟩) (v := ?_) rfl (by kernel_rfl) (by kernel_rfl) (by kernel_rfl) (fun _ _ _ h => h) (Or.inl ⟨by kernel_rfl, ?y38⟩) (by assumption) ?_
        case y38 => (intro w hSw; (try dsimp only at hSw); first | (go_simp; done) | (go_simp; with_reducible rfl))
        simp only [Act.put, List.setIfInBounds_toArray, List.set_cons_zero, List.set_cons_succ]
        refine wpAnyH_take (i := 5) (oi := ⟨some 36, _, _, _, _, _⟩) (v := ?_) rfl (by kernel_rfl) (by kernel_rfl) (by kernel_rfl) (fun _ _ _ h => h) (Or.inl ⟨by kernel_rfl, ?y39⟩) (by assumption) ?_
        case y39 => (intro w hSw; (try dsimp only at hSw); first | (go_simp; done) | (go_simp; with_reducible rfl))
        simp only [Act.put, List.setIfInBounds_toArray, List.set_cons_zero, List.set_cons_succ]
        refine wpAnyH_take (i := 6) (oi := ⟨some 37, _, _, _, _, _⟩) (v := ?_) rfl (by kernel_rfl) (by kernel_rfl) (by kernel_rfl) (fun _ _ _ h => h) (Or.inl ⟨by kernel_rfl, ?y40⟩) (by assumption) ?_
        case y40 => (intro w hSw; (try dsimp only at hSw); first | (go_simp; done) | (go_simp; with_reducible rfl))
        simp only [Act.put, List.setIfInBounds_toArray, List.set_cons_zero, List.set_cons_succ]
        refine wpAnyH_take (i := 7) (oi := ⟨some 38, _, _, _, _, _⟩) (v := ?_) rfl (by kernel_rfl) (by kernel_rfl) (by kernel_rfl) (fun _ _ _ h => h) (Or.inl ⟨by kernel_rfl, ?y41⟩) (by assumption) ?_
        case y41 => (intro w hSw; (try dsimp only at hSw); first | (go_simp; done) | (go_simp; with_reducible rfl))
        simp only [Act.put, List.setIfInBounds_toArray, List.set_cons_zero, List.set_cons_succ]
        refine wpAnyH_take (i := 8) (oi := ⟨some 39, _, _, _, _, _⟩) (v := ?_) rfl (by kernel_rfl) (by kernel_rfl) (by kernel_rfl) (fun _ _ _ h => h) (Or.inl ⟨by kernel_rfl, ?y42⟩) (by assumption) ?_
        case y42 => (intro w hSw; (try dsimp only at hSw); first | (go_simp; done) | (go_simp; with_reducible rfl))
        simp only [Act.put, List.setIfInBounds_toArray, List.set_cons_zero, List.set_cons_succ]
        refine wpAnyH_take (i := 9) (oi := ⟨some 40, _, _, _, _, _⟩) (v := ?_) rfl (by kernel_rfl) (by kernel_rfl) (by kernel_rfl) (fun _ _ _ h => h) (Or.inl ⟨by kernel_rfl, ?y43⟩) (by assumption) ?_
        case y43 => (intro w hSw; (try dsimp only at hSw); first | (go_simp; done) | (go_simp; with_reducible rfl))
        simp only [Act.put, List.setIfInBounds_toArray, List.set_cons_zero, List.set_cons_succ]
        refine wpAnyH_take (i := 10) (oi := ⟨some 41, _, _, _, _, _⟩) (v := ?_) rfl (by kernel_rfl) (by kernel_rfl) (by kernel_rfl) (fun _ _ _ h => h) (Or.inl ⟨by kernel_rfl, ?y44⟩) (by assumption) ?_
        case y44 => (intro w hSw; (try dsimp only at hSw); first | (go_simp; done) | (go_simp; with_reducible rfl))
        simp only [Act.put, List.setIfInBounds_toArray, List.set_cons_zero, List.set_cons_succ]
        refine wpAnyH_ready (rs := [11]) (by kernel_rfl) (by simp) ?_
        refine AllReadyH.cons (o := ⟨some 42, _, _, _, _, _⟩) rfl (fun K hK => ?_) AllReadyH.nil
        go_simp
        (go_at_call 66; (with_reducible refine (ssn_any _ _ _ l _ rfl _ ((HS.out.below B0.out.drew (Nat.le_refl _)).more B0.out.drew.size) HN.out hm).mono ?_); rintro e w5 ⟨rfl, b5⟩; have X5 := Lib.hid (X0.out.drew.below b5 X0.out.drew.lt); have B5 := Lib.hid (bstep B0.out.drew b5 B0.out.size); have r0 := X5.out.get 0 rfl; have r1 := X5.out.get 1 rfl; have r2 := X5.out.get 2 rfl; have r3 := X5.out.get 3 rfl; have r4 := X5.out.get 4 rfl; have r5 := X5.out.get 5 rfl; have r6 := X5.out.get 6 rfl; clear b5)
        first | go_wp2_with fail | skip
        refine hK.out _ _ (by first | exact ⟨q0, q1, q2, q3, q4, q5, q6⟩ | exact ⟨r0, r1, r2, r3, r4, r5, r6⟩ | go_keep) (fun hHeld => ?_)
        clear hK K
        try simp only [Act.put, List.setIfInBounds_toArray, List.set_cons_zero, List.set_cons_succ]
        refine wpAnyH_take (i := 12) (oi := ⟨some 43, _, _, _, _, _⟩) (v := ?_) rfl (by kernel_rfl) (by kernel_rfl) (by kernel_rfl) (fun _ _ _ h => h) (Or.inl ⟨by kernel_rfl, ?y45⟩) (by assumption) ?_
        case y45 => (intro w hSw; (try dsimp only at hSw); first | (go_simp; done) | (go_simp; with_reducible rfl))
        simp only [Act.put, List.setIfInBounds_toArray, List.set_cons_zero, List.set_cons_succ]
        refine wpAnyH_take (i := 13) (oi := ⟨some 44, _, _, _, _, _⟩) (v := ?_) rfl (by kernel_rfl) (by kernel_rfl) (by kernel_rfl) (fun _ _ _ h => h) (Or.inl ⟨by kernel_rfl, ?y46⟩) (by assumption) ?_
        case y46 => (intro w hSw; (try dsimp only at hSw); first | (go_simp; done) | (go_simp; with_reducible rfl))
        simp only [Act.put, List.setIfInBounds_toArray, List.set_cons_zero, List.set_cons_succ]
        refine wpAnyH_take (i := 14) (oi := ⟨some 45, _, _, _, _, _⟩) (v := ?_) rfl (by kernel_rfl) (by kernel_rfl) (by kernel_rfl) (fun _ _ _ h => h) (Or.inl ⟨by kernel_rfl, ?y47⟩) (by assumption) ?_
        case y47 => (intro w hSw; (try dsimp only at hSw); first | (go_simp; done) | (go_simp; with_reducible rfl))
        simp only [Act.put, List.setIfInBounds_toArray, List.set_cons_zero, List.set_cons_succ]
        refine wpAnyH_take (i := 15) (oi := ⟨some 4, _, _, _, _, _⟩) (v := ?_) rfl (by kernel_rfl) (by kernel_rfl) (by kernel_rfl) (fun _ _ _ h => h) (Or.inl ⟨by kernel_rfl, ?y48⟩) (by assumption) ?_
        case y48 => (intro w hSw; (try dsimp only at hSw); first | (go_simp; done) | (go_simp; with_reducible rfl))
        simp only [Act.put, List.setIfInBounds_toArray, List.set_cons_zero, List.set_cons_succ]
        refine wpAnyH_done (by kernel_rfl) ?_ _
        go_wp2
        go_ret
        exact ⟨ret_bool (by rw [← HV.out, HB.out]; simp [baseB]), B5.out⟩
  · obtain ⟨m, rfl⟩ : ∃ m, n = m + 1 := ⟨n - 1, by omega⟩
    obtain ⟨x, hx⟩ := fget_of_lt (xs := l) (k := m) (by rw [HN.out]; omega)
    obtain ⟨b, off, rfl, hbl, ⟨z0, z1, z2, z3, z4, z5, z6⟩⟩ := dats_elem HS.out hx
    have HX := Lib.hid hx
    clear hx
    obtain ⟨x0, x1, x2, x3, x4, x5, x6⟩ := x
    change World.cell? _ _ = some (.int .i64 x0) at z0
    change World.cell? _ _ = some (.int .i64 x1) at z1
    change World.cell? _ _ = some (.int .i64 x2) at z2
    change World.cell? _ _ = some (.bool x3) at z3
    change World.cell? _ _ = some (.bool x4) at z4
    change World.cell? _ _ = some (.bool x5) at z5
    change World.cell? _ _ = some (.string x6) at z6
    have hm1 := IntWalk.i64_in (m : Int) (by omega)
    have hm2 : ((m + 1 : Nat) : Int) - 1 = (m : Int) := by omega
    have hm3 : (0 : Int) ≤ (m : Int) := by omega
    have hm4 : (m : Int) < (m : Int) + 1 := by omega
    cases x4 with
    | true =>
      have HB := Lib.hid (follow_last HN.out HX.out ⟨d0, d1, d2, d3, d4, d5, d6⟩ rfl)
      clear HX
      cases d3 with
      | false =>
        go_enter Try.func62, Try.ntmps62
        go_wp2
        have X0 := Lib.hid (Blk.new w #[.int .i64 d0, .int .i64 d1, .int .i64 d2, .bool false, .bool d4, .bool d5, .string d6] 45)
        have B0 := Lib.hid ((Below.refl w.heap.size w).alloc (Nat.le_refl _) (.cells #[.int .i64 d0, .int .i64 d1, .int .i64 d2, .bool false, .bool d4, .bool d5, .string d6] 45))
        have q0 := X0.out.get 0 rfl
        have q1 := X0.out.get 1 rfl
        have q2 := X0.out.get 2 rfl
        have q3 := X0.out.get 3 rfl
        have q4 := X0.out.get 4 rfl
        have q5 := X0.out.get 5 rfl
        have q6 := X0.out.get 6 rfl
        refine wp_region_held_drew (S := fun w' => w'.cell? ⟨w.heap.size, 0, none⟩ = some (.int .i64 d0) ∧ w'.cell? ⟨w.heap.size, 1, none⟩ = some (.int .i64 d1) ∧ w'.cell? ⟨w.heap.size, 2, none⟩ = some (.int .i64 d2) ∧ w'.cell? ⟨w.heap.size, 3, none⟩ = some (.bool false) ∧ w'.cell? ⟨w.heap.size, 4, none⟩ = some (.bool d4) ∧ w'.cell? ⟨w.heap.size, 5, none⟩ = some (.bool d5) ∧ w'.cell? ⟨w.heap.size, 6, none⟩ = some (.string d6)) (by kernel_rfl) (by first | exact ⟨q0, q1, q2, q3, q4, q5, q6⟩ | exact ⟨r0, r1, r2, r3, r4, r5, r6⟩ | go_keep) (fun hHeld => ?_)
        refine wpAnyH_take (i := 0) (oi := ⟨some 31, _, _, _, _, _⟩) (v := ?_) rfl (by kernel_rfl) (by kernel_rfl) (by kernel_rfl) (fun _ _ _ h => h) (Or.inl ⟨by kernel_rfl, ?y49⟩) (by assumption) ?_
        case y49 => (intro w hSw; (try dsimp only at hSw); first | (go_simp; done) | (go_simp; with_reducible rfl))
        simp only [Act.put, List.setIfInBounds_toArray, List.set_cons_zero, List.set_cons_succ]
        refine wpAnyH_take (i := 1) (oi := ⟨some 32, _, _, _, _, _⟩) (v := ?_) rfl (by kernel_rfl) (by kernel_rfl) (by kernel_rfl) (fun _ _ _ h => h) (Or.inl ⟨by kernel_rfl, ?y50⟩) (by assumption) ?_
        case y50 => (intro w hSw; (try dsimp only at hSw); first | (go_simp; done) | (go_simp; with_reducible rfl))
        simp only [Act.put, List.setIfInBounds_toArray, List.set_cons_zero, List.set_cons_succ]
        refine wpAnyH_take (i := 2) (oi := ⟨some 33, _, _, _, _, _⟩) (v := ?_) rfl (by kernel_rfl) (by kernel_rfl) (by kernel_rfl) (fun _ _ _ h => h) (Or.inl ⟨by kernel_rfl, ?y51⟩) (by assumption) ?_
        case y51 => (intro w hSw; (try dsimp only at hSw); first | (go_simp; done) | (go_simp; with_reducible rfl))
        simp only [Act.put, List.setIfInBounds_toArray, List.set_cons_zero, List.set_cons_succ]
        refine wpAnyH_take (i := 3) (oi := ⟨some 34, _, _, _, _, _⟩) (v := undef) rfl (by kernel_rfl) (by kernel_rfl) (by kernel_rfl) (fun _ _ _ h => h) (Or.inr ⟨by kernel_rfl, rfl⟩) (by assumption) ?_
        simp only [Act.put, List.setIfInBounds_toArray, List.set_cons_zero, List.set_cons_succ]
        refine wpAnyH_take (i := 4) (oi := ⟨some 35, _, _, _, _, _⟩) (v := undef) rfl (by kernel_rfl) (by kernel_rfl) (by kernel_rfl) (fun _ _ _ h => h) (Or.inr ⟨by kernel_rfl, rfl⟩) (by assumption) ?_
        simp only [Act.put, List.setIfInBounds_toArray, List.set_cons_zero, List.set_cons_succ]
        refine wpAnyH_take (i := 5) (oi := ⟨some 36, _, _, _, _, _⟩) (v := undef) rfl (by kernel_rfl) (by kernel_rfl) (by kernel_rfl) (fun _ _ _ h => h) (Or.inr ⟨by kernel_rfl, rfl⟩) (by assumption) ?_
        simp only [Act.put, List.setIfInBounds_toArray, List.set_cons_zero, List.set_cons_succ]
        refine wpAnyH_take (i := 6) (oi := ⟨some 37, _, _, _, _, _⟩) (v := undef) rfl (by kernel_rfl) (by kernel_rfl) (by kernel_rfl) (fun _ _ _ h => h) (Or.inr ⟨by kernel_rfl, rfl⟩) (by assumption) ?_
        simp only [Act.put, List.setIfInBounds_toArray, List.set_cons_zero, List.set_cons_succ]
        refine wpAnyH_take (i := 7) (oi := ⟨some 38, _, _, _, _, _⟩) (v := undef) rfl (by kernel_rfl) (by kernel_rfl) (by kernel_rfl) (fun _ _ _ h => h) (Or.inr ⟨by kernel_rfl, rfl⟩) (by assumption) ?_
        simp only [Act.put, List.setIfInBounds_toArray, List.set_cons_zero, List.set_cons_succ]
        refine wpAnyH_take (i := 8) (oi := ⟨some 39, _, _, _, _, _⟩) (v := undef) rfl (by kernel_rfl) (by kernel_rfl) (by kernel_rfl) (fun _ _ _ h => h) (Or.inr ⟨by kernel_rfl, rfl⟩) (by assumption) ?_
        simp only [Act.put, List.setIfInBounds_toArray, List.set_cons_zero, List.set_cons_succ]
        refine wpAnyH_take (i := 9) (oi := ⟨some 40, _, _, _, _, _⟩) (v := undef) rfl (by kernel_rfl) (by kernel_rfl) (by kernel_rfl) (fun _ _ _ h => h) (Or.inr ⟨by kernel_rfl, rfl⟩) (by assumption) ?_
        simp only [Act.put, List.setIfInBounds_toArray, List.set_cons_zero, List.set_cons_succ]
        refine wpAnyH_take (i := 10) (oi := ⟨some 41, _, _, _, _, _⟩) (v := undef) rfl (by kernel_rfl) (by kernel_rfl) (by kernel_rfl) (fun _ _ _ h => h) (Or.inr ⟨by kernel_rfl, rfl⟩) (by assumption) ?_
        simp only [Act.put, List.setIfInBounds_toArray, List.set_cons_zero, List.set_cons_succ]
        refine wpAnyH_take (i := 11) (oi := ⟨some 42, _, _, _, _, _⟩) (v := undef) rfl (by kernel_rfl) (by kernel_rfl) (by kernel_rfl) (fun _ _ _ h => h) (Or.inr ⟨by kernel_rfl, rfl⟩) (by assumption) ?_
        simp only [Act.put, List.setIfInBounds_toArray, List.set_cons_zero, List.set_cons_succ]
        refine wpAnyH_take (i := 12) (oi := ⟨some 43, _, _, _, _, _⟩) (v := undef) rfl (by kernel_rfl) (by kernel_rfl) (by kernel_rfl) (fun _ _ _ h => h) (Or.inr ⟨by kernel_rfl, rfl⟩) (by assumption) ?_
        simp only [Act.put, List.setIfInBounds_toArray, List.set_cons_zero, List.set_cons_succ]
        refine wpAnyH_take (i := 13) (oi := ⟨some 44, _, _, _, _, _⟩) (v := undef) rfl (by kernel_rfl) (by kernel_rfl) (by kernel_rfl) (fun _ _ _ h => h) (Or.inr ⟨by kernel_rfl, rfl⟩) (by assumption) ?_
        simp only [Act.put, List.setIfInBounds_toArray, List.set_cons_zero, List.set_cons_succ]
        refine wpAnyH_take (i := 14) (oi := ⟨some 45, _, _, _, _, _⟩) (v := ?_) rfl (by kernel_rfl) (by kernel_rfl) (by kernel_rfl) (fun _ _ _ h => h) (Or.inl ⟨by kernel_rfl, ?y52⟩) (by assumption) ?_
        case y52 => (intro w hSw; (try dsimp only at hSw); first | (go_simp; done) | (go_simp; with_reducible rfl))
        simp only [Act.put, List.setIfInBounds_toArray, List.set_cons_zero, List.set_cons_succ]
        refine wpAnyH_take (i := 15) (oi := ⟨some 4, _, _, _, _, _⟩) (v := ?_) rfl (by kernel_rfl) (by kernel_rfl) (by kernel_rfl) (fun _ _ _ h => h) (Or.inl ⟨by kernel_rfl, ?y53⟩) (by assumption) ?_
        case y53 => (intro w hSw; (try dsimp only at hSw); first | (go_simp; done) | (go_simp; with_reducible rfl))
        simp only [Act.put, List.setIfInBounds_toArray, List.set_cons_zero, List.set_cons_succ]
        refine wpAnyH_done (by kernel_rfl) ?_ _
        go_wp2
        go_ret
        exact ⟨ret_bool (by rw [← HV.out, HB.out]; simp [baseB]), B0.out.drew⟩
      | true =>
        cases d5 with
        | true =>
          go_enter Try.func62, Try.ntmps62
          go_wp2
          have X0 := Lib.hid (Blk.new w #[.int .i64 d0, .int .i64 d1, .int .i64 d2, .bool true, .bool d4, .bool true, .string d6] 45)
          have B0 := Lib.hid ((Below.refl w.heap.size w).alloc (Nat.le_refl _) (.cells #[.int .i64 d0, .int .i64 d1, .int .i64 d2, .bool true, .bool d4, .bool true, .string d6] 45))
          have q0 := X0.out.get 0 rfl
          have q1 := X0.out.get 1 rfl
          have q2 := X0.out.get 2 rfl
          have q3 := X0.out.get 3 rfl
          have q4 := X0.out.get 4 rfl
          have q5 := X0.out.get 5 rfl
          have q6 := X0.out.get 6 rfl
          refine wp_region_held_drew (S := fun w' => w'.cell? ⟨w.heap.size, 0, none⟩ = some (.int .i64 d0) ∧ w'.cell? ⟨w.heap.size, 1, none⟩ = some (.int .i64 d1) ∧ w'.cell? ⟨w.heap.size, 2, none⟩ = some (.int .i64 d2) ∧ w'.cell? ⟨w.heap.size, 3, none⟩ = some (.bool true) ∧ w'.cell? ⟨w.heap.size, 4, none⟩ = some (.bool d4) ∧ w'.cell? ⟨w.heap.size, 5, none⟩ = some (.bool true) ∧ w'.cell? ⟨w.heap.size, 6, none⟩ = some (.string d6)) (by kernel_rfl) (by first | exact ⟨q0, q1, q2, q3, q4, q5, q6⟩ | exact ⟨r0, r1, r2, r3, r4, r5, r6⟩ | go_keep) (fun hHeld => ?_)
          refine wpAnyH_take (i := 0) (oi := ⟨some 31, _, _, _, _, _⟩) (v := ?_) rfl (by kernel_rfl) (by kernel_rfl) (by kernel_rfl) (fun _ _ _ h => h) (Or.inl ⟨by kernel_rfl, ?y54⟩) (by assumption) ?_
          case y54 => (intro w hSw; (try dsimp only at hSw); first | (go_simp; done) | (go_simp; with_reducible rfl))
          simp only [Act.put, List.setIfInBounds_toArray, List.set_cons_zero, List.set_cons_succ]
          refine wpAnyH_take (i := 1) (oi := ⟨some 32, _, _, _, _, _⟩) (v := ?_) rfl (by kernel_rfl) (by kernel_rfl) (by kernel_rfl) (fun _ _ _ h => h) (Or.inl ⟨by kernel_rfl, ?y55⟩) (by assumption) ?_
          case y55 => (intro w hSw; (try dsimp only at hSw); first | (go_simp; done) | (go_simp; with_reducible rfl))
          simp only [Act.put, List.setIfInBounds_toArray, List.set_cons_zero, List.set_cons_succ]
          refine wpAnyH_take (i := 2) (oi := ⟨some 33, _, _, _, _, _⟩) (v := ?_) rfl (by kernel_rfl) (by kernel_rfl) (by kernel_rfl) (fun _ _ _ h => h) (Or.inl ⟨by kernel_rfl, ?y56⟩) (by assumption) ?_
          case y56 => (intro w hSw; (try dsimp only at hSw); first | (go_simp; done) | (go_simp; with_reducible rfl))
          simp only [Act.put, List.setIfInBounds_toArray, List.set_cons_zero, List.set_cons_succ]
          refine wpAnyH_take (i := 3) (oi := ⟨some 34, _, _, _, _, _⟩) (v := ?_) rfl (by kernel_rfl) (by kernel_rfl) (by kernel_rfl) (fun _ _ _ h => h) (Or.inl ⟨by kernel_rfl, ?y57⟩) (by assumption) ?_
          case y57 => (intro w hSw; (try dsimp only at hSw); first | (go_simp; done) | (go_simp; with_reducible rfl))
          simp only [Act.put, List.setIfInBounds_toArray, List.set_cons_zero, List.set_cons_succ]
          refine wpAnyH_take (i := 4) (oi := ⟨some 35, _, _, _, _, _⟩) (v := ?_) rfl (by kernel_rfl) (by kernel_rfl) (by kernel_rfl) (fun _ _ _ h => h) (Or.inl ⟨by kernel_rfl, ?y58⟩) (by assumption) ?_
          case y58 => (intro w hSw; (try dsimp only at hSw); first | (go_simp; done) | (go_simp; with_reducible rfl))
          simp only [Act.put, List.setIfInBounds_toArray, List.set_cons_zero, List.set_cons_succ]
          refine wpAnyH_take (i := 5) (oi := ⟨some 36, _, _, _, _, _⟩) (v := ?_) rfl (by kernel_rfl) (by kernel_rfl) (by kernel_rfl) (fun _ _ _ h => h) (Or.inl ⟨by kernel_rfl, ?y59⟩) (by assumption) ?_
          case y59 => (intro w hSw; (try dsimp only at hSw); first | (go_simp; done) | (go_simp; with_reducible rfl))
          simp only [Act.put, List.setIfInBounds_toArray, List.set_cons_zero, List.set_cons_succ]
          refine wpAnyH_take (i := 6) (oi := ⟨some 37, _, _, _, _, _⟩) (v := undef) rfl (by kernel_rfl) (by kernel_rfl) (by kernel_rfl) (fun _ _ _ h => h) (Or.inr ⟨by kernel_rfl, rfl⟩) (by assumption) ?_
          simp only [Act.put, List.setIfInBounds_toArray, List.set_cons_zero, List.set_cons_succ]
          refine wpAnyH_take (i := 7) (oi := ⟨some 38, _, _, _, _, _⟩) (v := undef) rfl (by kernel_rfl) (by kernel_rfl) (by kernel_rfl) (fun _ _ _ h => h) (Or.inr ⟨by kernel_rfl, rfl⟩) (by assumption) ?_
          simp only [Act.put, List.setIfInBounds_toArray, List.set_cons_zero, List.set_cons_succ]
          refine wpAnyH_take (i := 8) (oi := ⟨some 39, _, _, _, _, _⟩) (v := undef) rfl (by kernel_rfl) (by kernel_rfl) (by kernel_rfl) (fun _ _ _ h => h) (Or.inr ⟨by kernel_rfl, rfl⟩) (by assumption) ?_
          simp only [Act.put, List.setIfInBounds_toArray, List.set_cons_zero, List.set_cons_succ]
          refine wpAnyH_take (i := 9) (oi := ⟨some 40, _, _, _, _, _⟩) (v := undef) rfl (by kernel_rfl) (by kernel_rfl) (by kernel_rfl) (fun _ _ _ h => h) (Or.inr ⟨by kernel_rfl, rfl⟩) (by assumption) ?_
          simp only [Act.put, List.setIfInBounds_toArray, List.set_cons_zero, List.set_cons_succ]
          refine wpAnyH_take (i := 10) (oi := ⟨some 41, _, _, _, _, _⟩) (v := undef) rfl (by kernel_rfl) (by kernel_rfl) (by kernel_rfl) (fun _ _ _ h => h) (Or.inr ⟨by kernel_rfl, rfl⟩) (by assumption) ?_
          simp only [Act.put, List.setIfInBounds_toArray, List.set_cons_zero, List.set_cons_succ]
          refine wpAnyH_take (i := 11) (oi := ⟨some 42, _, _, _, _, _⟩) (v := undef) rfl (by kernel_rfl) (by kernel_rfl) (by kernel_rfl) (fun _ _ _ h => h) (Or.inr ⟨by kernel_rfl, rfl⟩) (by assumption) ?_
          simp only [Act.put, List.setIfInBounds_toArray, List.set_cons_zero, List.set_cons_succ]
          refine wpAnyH_take (i := 12) (oi := ⟨some 43, _, _, _, _, _⟩) (v := undef) rfl (by kernel_rfl) (by kernel_rfl) (by kernel_rfl) (fun _ _ _ h => h) (Or.inr ⟨by kernel_rfl, rfl⟩) (by assumption) ?_
          simp only [Act.put, List.setIfInBounds_toArray, List.set_cons_zero, List.set_cons_succ]
          refine wpAnyH_take (i := 13) (oi := ⟨some 44, _, _, _, _, _⟩) (v := ?_) rfl (by kernel_rfl) (by kernel_rfl) (by kernel_rfl) (fun _ _ _ h => h) (Or.inl ⟨by kernel_rfl, ?y60⟩) (by assumption) ?_
          case y60 => (intro w hSw; (try dsimp only at hSw); first | (go_simp; done) | (go_simp; with_reducible rfl))
          simp only [Act.put, List.setIfInBounds_toArray, List.set_cons_zero, List.set_cons_succ]
          refine wpAnyH_take (i := 14) (oi := ⟨some 45, _, _, _, _, _⟩) (v := ?_) rfl (by kernel_rfl) (by kernel_rfl) (by kernel_rfl) (fun _ _ _ h => h) (Or.inl ⟨by kernel_rfl, ?y61⟩) (by assumption) ?_
          case y61 => (intro w hSw; (try dsimp only at hSw); first | (go_simp; done) | (go_simp; with_reducible rfl))
          simp only [Act.put, List.setIfInBounds_toArray, List.set_cons_zero, List.set_cons_succ]
          refine wpAnyH_take (i := 15) (oi := ⟨some 4, _, _, _, _, _⟩) (v := ?_) rfl (by kernel_rfl) (by kernel_rfl) (by kernel_rfl) (fun _ _ _ h => h) (Or.inl ⟨by kernel_rfl, ?y62⟩) (by assumption) ?_
          case y62 => (intro w hSw; (try dsimp only at hSw); first | (go_simp; done) | (go_simp; with_reducible rfl))
          simp only [Act.put, List.setIfInBounds_toArray, List.set_cons_zero, List.set_cons_succ]
          refine wpAnyH_done (by kernel_rfl) ?_ _
          go_wp2
          go_ret
          exact ⟨ret_bool (by rw [← HV.out, HB.out]; simp [baseB]), B0.out.drew⟩
        | false =>
          go_enter Try.func62, Try.ntmps62
          go_wp2
          have X0 := Lib.hid (Blk.new w #[.int .i64 d0, .int .i64 d1, .int .i64 d2, .bool true, .bool d4, .bool false, .string d6] 45)
          have B0 := Lib.hid ((Below.refl w.heap.size w).alloc (Nat.le_refl _) (.cells #[.int .i64 d0, .int .i64 d1, .int .i64 d2, .bool true, .bool d4, .bool false, .string d6] 45))
          have q0 := X0.out.get 0 rfl
          have q1 := X0.out.get 1 rfl
          have q2 := X0.out.get 2 rfl
          have q3 := X0.out.get 3 rfl
          have q4 := X0.out.get 4 rfl
          have q5 := X0.out.get 5 rfl
          have q6 := X0.out.get 6 rfl
          refine wp_region_held_drew (S := fun w' => w'.cell? ⟨w.heap.size, 0, none⟩ = some (.int .i64 d0) ∧ w'.cell? ⟨w.heap.size, 1, none⟩ = some (.int .i64 d1) ∧ w'.cell? ⟨w.heap.size, 2, none⟩ = some (.int .i64 d2) ∧ w'.cell? ⟨w.heap.size, 3, none⟩ = some (.bool true) ∧ w'.cell? ⟨w.heap.size, 4, none⟩ = some (.bool d4) ∧ w'.cell? ⟨w.heap.size, 5, none⟩ = some (.bool false) ∧ w'.cell? ⟨w.heap.size, 6, none⟩ = some (.string d6)) (by kernel_rfl) (by first | exact ⟨q0, q1, q2, q3, q4, q5, q6⟩ | exact ⟨r0, r1, r2, r3, r4, r5, r6⟩ | go_keep) (fun hHeld => ?_)
          refine wpAnyH_take (i := 0) (oi := ⟨some 31, _, _, _, _, _⟩) (v := ?_) rfl (by kernel_rfl) (by kernel_rfl) (by kernel_rfl) (fun _ _ _ h => h) (Or.inl ⟨by kernel_rfl, ?y63⟩) (by assumption) ?_
          case y63 => (intro w hSw; (try dsimp only at hSw); first | (go_simp; done) | (go_simp; with_reducible rfl))
          simp only [Act.put, List.setIfInBounds_toArray, List.set_cons_zero, List.set_cons_succ]
          refine wpAnyH_take (i := 1) (oi := ⟨some 32, _, _, _, _, _⟩) (v := ?_) rfl (by kernel_rfl) (by kernel_rfl) (by kernel_rfl) (fun _ _ _ h => h) (Or.inl ⟨by kernel_rfl, ?y64⟩) (by assumption) ?_
          case y64 => (intro w hSw; (try dsimp only at hSw); first | (go_simp; done) | (go_simp; with_reducible rfl))
          simp only [Act.put, List.setIfInBounds_toArray, List.set_cons_zero, List.set_cons_succ]
          refine wpAnyH_take (i := 2) (oi := ⟨some 33, _, _, _, _, _⟩) (v := ?_) rfl (by kernel_rfl) (by kernel_rfl) (by kernel_rfl) (fun _ _ _ h => h) (Or.inl ⟨by kernel_rfl, ?y65⟩) (by assumption) ?_
          case y65 => (intro w hSw; (try dsimp only at hSw); first | (go_simp; done) | (go_simp; with_reducible rfl))
          simp only [Act.put, List.setIfInBounds_toArray, List.set_cons_zero, List.set_cons_succ]
          refine wpAnyH_take (i := 3) (oi := ⟨some 34, _, _, _, _, _⟩) (v := ?_) rfl (by kernel_rfl) (by kernel_rfl) (by kernel_rfl) (fun _ _ _ h => h) (Or.inl ⟨by kernel_rfl, ?y66⟩) (by assumption) ?_
          case y66 => (intro w hSw; (try dsimp only at hSw); first | (go_simp; done) | (go_simp; with_reducible rfl))
          simp only [Act.put, List.setIfInBounds_toArray, List.set_cons_zero, List.set_cons_succ]
          refine wpAnyH_take (i := 4) (oi := ⟨some 35, _, _, _, _, _⟩) (v := ?_) rfl (by kernel_rfl) (by kernel_rfl) (by kernel_rfl) (fun _ _ _ h => h) (Or.inl ⟨by kernel_rfl, ?y67⟩) (by assumption) ?_
          case y67 => (intro w hSw; (try dsimp only at hSw); first | (go_simp; done) | (go_simp; with_reducible rfl))
          simp only [Act.put, List.setIfInBounds_toArray, List.set_cons_zero, List.set_cons_succ]
          refine wpAnyH_take (i := 5) (oi := ⟨some 36, _, _, _, _, _⟩) (v := ?_) rfl (by kernel_rfl) (by kernel_rfl) (by kernel_rfl) (fun _ _ _ h => h) (Or.inl ⟨by kernel_rfl, ?y68⟩) (by assumption) ?_
          case y68 => (intro w hSw; (try dsimp only at hSw); first | (go_simp; done) | (go_simp; with_reducible rfl))
          simp only [Act.put, List.setIfInBounds_toArray, List.set_cons_zero, List.set_cons_succ]
          refine wpAnyH_take (i := 6) (oi := ⟨some 37, _, _, _, _, _⟩) (v := ?_) rfl (by kernel_rfl) (by kernel_rfl) (by kernel_rfl) (fun _ _ _ h => h) (Or.inl ⟨by kernel_rfl, ?y69⟩) (by assumption) ?_
          case y69 => (intro w hSw; (try dsimp only at hSw); first | (go_simp; done) | (go_simp; with_reducible rfl))
          simp only [Act.put, List.setIfInBounds_toArray, List.set_cons_zero, List.set_cons_succ]
          refine wpAnyH_take (i := 7) (oi := ⟨some 38, _, _, _, _, _⟩) (v := ?_) rfl (by kernel_rfl) (by kernel_rfl) (by kernel_rfl) (fun _ _ _ h => h) (Or.inl ⟨by kernel_rfl, ?y70⟩) (by assumption) ?_
          case y70 => (intro w hSw; (try dsimp only at hSw); first | (go_simp; done) | (go_simp; with_reducible rfl))
          simp only [Act.put, List.setIfInBounds_toArray, List.set_cons_zero, List.set_cons_succ]
          refine wpAnyH_take (i := 8) (oi := ⟨some 39, _, _, _, _, _⟩) (v := ?_) rfl (by kernel_rfl) (by kernel_rfl) (by kernel_rfl) (fun _ _ _ h => h) (Or.inl ⟨by kernel_rfl, ?y71⟩) (by assumption) ?_
          case y71 => (intro w hSw; (try dsimp only at hSw); first | (go_simp; done) | (go_simp; with_reducible rfl))
          simp only [Act.put, List.setIfInBounds_toArray, List.set_cons_zero, List.set_cons_succ]
          refine wpAnyH_take (i := 9) (oi := ⟨some 40, _, _, _, _, _⟩) (v := ?_) rfl (by kernel_rfl) (by kernel_rfl) (by kernel_rfl) (fun _ _ _ h => h) (Or.inl ⟨by kernel_rfl, ?y72⟩) (by assumption) ?_
          case y72 => (intro w hSw; (try dsimp only at hSw); first | (go_simp; done) | (go_simp; with_reducible rfl))
          simp only [Act.put, List.setIfInBounds_toArray, List.set_cons_zero, List.set_cons_succ]
          refine wpAnyH_take (i := 10) (oi := ⟨some 41, _, _, _, _, _⟩) (v := ?_) rfl (by kernel_rfl) (by kernel_rfl) (by kernel_rfl) (fun _ _ _ h => h) (Or.inl ⟨by kernel_rfl, ?y73⟩) (by assumption) ?_
          case y73 => (intro w hSw; (try dsimp only at hSw); first | (go_simp; done) | (go_simp; with_reducible rfl))
          simp only [Act.put, List.setIfInBounds_toArray, List.set_cons_zero, List.set_cons_succ]
          refine wpAnyH_ready (rs := [11]) (by kernel_rfl) (by simp) ?_
          refine AllReadyH.cons (o := ⟨some 42, _, _, _, _, _⟩) rfl (fun K hK => ?_) AllReadyH.nil
          go_simp
          (go_at_call 66; (with_reducible refine (ssn_any _ _ _ l _ rfl _ ((HS.out.below B0.out.drew (Nat.le_refl _)).more B0.out.drew.size) HN.out hm).mono ?_); rintro e w5 ⟨rfl, b5⟩; have X5 := Lib.hid (X0.out.drew.below b5 X0.out.drew.lt); have B5 := Lib.hid (bstep B0.out.drew b5 B0.out.size); have r0 := X5.out.get 0 rfl; have r1 := X5.out.get 1 rfl; have r2 := X5.out.get 2 rfl; have r3 := X5.out.get 3 rfl; have r4 := X5.out.get 4 rfl; have r5 := X5.out.get 5 rfl; have r6 := X5.out.get 6 rfl; clear b5)
          first | go_wp2_with fail | skip
          refine hK.out _ _ (by first | exact ⟨q0, q1, q2, q3, q4, q5, q6⟩ | exact ⟨r0, r1, r2, r3, r4, r5, r6⟩ | go_keep) (fun hHeld => ?_)
          clear hK K
          try simp only [Act.put, List.setIfInBounds_toArray, List.set_cons_zero, List.set_cons_succ]
          refine wpAnyH_take (i := 12) (oi := ⟨some 43, _, _, _, _, _⟩) (v := ?_) rfl (by kernel_rfl) (by kernel_rfl) (by kernel_rfl) (fun _ _ _ h => h) (Or.inl ⟨by kernel_rfl, ?y74⟩) (by assumption) ?_
          case y74 => (intro w hSw; (try dsimp only at hSw); first | (go_simp; done) | (go_simp; with_reducible rfl))
          simp only [Act.put, List.setIfInBounds_toArray, List.set_cons_zero, List.set_cons_succ]
          refine wpAnyH_take (i := 13) (oi := ⟨some 44, _, _, _, _, _⟩) (v := ?_) rfl (by kernel_rfl) (by kernel_rfl) (by kernel_rfl) (fun _ _ _ h => h) (Or.inl ⟨by kernel_rfl, ?y75⟩) (by assumption) ?_
          case y75 => (intro w hSw; (try dsimp only at hSw); first | (go_simp; done) | (go_simp; with_reducible rfl))
          simp only [Act.put, List.setIfInBounds_toArray, List.set_cons_zero, List.set_cons_succ]
          refine wpAnyH_take (i := 14) (oi := ⟨some 45, _, _, _, _, _⟩) (v := ?_) rfl (by kernel_rfl) (by kernel_rfl) (by kernel_rfl) (fun _ _ _ h => h) (Or.inl ⟨by kernel_rfl, ?y76⟩) (by assumption) ?_
          case y76 => (intro w hSw; (try dsimp only at hSw); first | (go_simp; done) | (go_simp; with_reducible rfl))
          simp only [Act.put, List.setIfInBounds_toArray, List.set_cons_zero, List.set_cons_succ]
          refine wpAnyH_take (i := 15) (oi := ⟨some 4, _, _, _, _, _⟩) (v := ?_) rfl (by kernel_rfl) (by kernel_rfl) (by kernel_rfl) (fun _ _ _ h => h) (Or.inl ⟨by kernel_rfl, ?y77⟩) (by assumption) ?_
          case y77 => (intro w hSw; (try dsimp only at hSw); first | (go_simp; done) | (go_simp; with_reducible rfl))
          simp only [Act.put, List.setIfInBounds_toArray, List.set_cons_zero, List.set_cons_succ]
          refine wpAnyH_done (by kernel_rfl) ?_ _
          go_wp2
          go_ret
          exact ⟨ret_bool (by rw [← HV.out, HB.out]; simp [baseB]), B5.out⟩
    | false =>
      have HB := Lib.hid (follow_on HN.out HX.out ⟨d0, d1, d2, d3, d4, d5, d6⟩ rfl)
      cases d3 with
      | true =>
        go_enter Try.func62, Try.ntmps62
        go_wp2
        have X0 := Lib.hid (Blk.new w #[.int .i64 d0, .int .i64 d1, .int .i64 d2, .bool true, .bool d4, .bool d5, .string d6] 45)
        have B0 := Lib.hid ((Below.refl w.heap.size w).alloc (Nat.le_refl _) (.cells #[.int .i64 d0, .int .i64 d1, .int .i64 d2, .bool true, .bool d4, .bool d5, .string d6] 45))
        have q0 := X0.out.get 0 rfl
        have q1 := X0.out.get 1 rfl
        have q2 := X0.out.get 2 rfl
        have q3 := X0.out.get 3 rfl
        have q4 := X0.out.get 4 rfl
        have q5 := X0.out.get 5 rfl
        have q6 := X0.out.get 6 rfl
        have s0 := (B0.out.cell (p := ⟨b, off + m * 7, none⟩) hbl).trans z0
        have s1 := (B0.out.cell (p := ⟨b, off + m * 7 + 1, none⟩) hbl).trans z1
        have s2 := (B0.out.cell (p := ⟨b, off + m * 7 + 2, none⟩) hbl).trans z2
        have s3 := (B0.out.cell (p := ⟨b, off + m * 7 + 3, none⟩) hbl).trans z3
        have s4 := (B0.out.cell (p := ⟨b, off + m * 7 + 4, none⟩) hbl).trans z4
        have s5 := (B0.out.cell (p := ⟨b, off + m * 7 + 5, none⟩) hbl).trans z5
        have s6 := (B0.out.cell (p := ⟨b, off + m * 7 + 6, none⟩) hbl).trans z6
        refine wp_region_held_drew (S := fun w' => w'.cell? ⟨w.heap.size, 0, none⟩ = some (.int .i64 d0) ∧ w'.cell? ⟨w.heap.size, 1, none⟩ = some (.int .i64 d1) ∧ w'.cell? ⟨w.heap.size, 2, none⟩ = some (.int .i64 d2) ∧ w'.cell? ⟨w.heap.size, 3, none⟩ = some (.bool true) ∧ w'.cell? ⟨w.heap.size, 4, none⟩ = some (.bool d4) ∧ w'.cell? ⟨w.heap.size, 5, none⟩ = some (.bool d5) ∧ w'.cell? ⟨w.heap.size, 6, none⟩ = some (.string d6) ∧ w'.cell? ⟨b, off + m * 7, none⟩ = some (.int .i64 x0) ∧ w'.cell? ⟨b, off + m * 7 + 1, none⟩ = some (.int .i64 x1) ∧ w'.cell? ⟨b, off + m * 7 + 2, none⟩ = some (.int .i64 x2) ∧ w'.cell? ⟨b, off + m * 7 + 3, none⟩ = some (.bool x3) ∧ w'.cell? ⟨b, off + m * 7 + 4, none⟩ = some (.bool false) ∧ w'.cell? ⟨b, off + m * 7 + 5, none⟩ = some (.bool x5) ∧ w'.cell? ⟨b, off + m * 7 + 6, none⟩ = some (.string x6)) (by kernel_rfl) (by first | exact ⟨q0, q1, q2, q3, q4, q5, q6, s0, s1, s2, s3, s4, s5, s6⟩ | exact ⟨r0, r1, r2, r3, r4, r5, r6, t0, t1, t2, t3, t4, t5, t6⟩ | go_keep) (fun hHeld => ?_)
        refine wpAnyH_take (i := 0) (oi := ⟨some 19, _, _, _, _, _⟩) (v := ?_) rfl (by kernel_rfl) (by kernel_rfl) (by kernel_rfl) (fun _ _ _ h => h) (Or.inl ⟨by kernel_rfl, ?y78⟩) (by assumption) ?_
        case y78 => (intro w hSw; (try dsimp only at hSw); first | (go_simp; done) | (go_simp; with_reducible rfl))
        simp only [Act.put, List.setIfInBounds_toArray, List.set_cons_zero, List.set_cons_succ]
        refine wpAnyH_take (i := 1) (oi := ⟨some 20, _, _, _, _, _⟩) (v := ?_) rfl (by kernel_rfl) (by kernel_rfl) (by kernel_rfl) (fun _ _ _ h => h) (Or.inl ⟨by kernel_rfl, ?y79⟩) (by assumption) ?_
        case y79 => (intro w hSw; (try dsimp only at hSw); first | (go_simp; done) | (go_simp; with_reducible rfl))
        simp only [Act.put, List.setIfInBounds_toArray, List.set_cons_zero, List.set_cons_succ]
        refine wpAnyH_take (i := 2) (oi := ⟨some 21, _, _, _, _, _⟩) (v := ?_) rfl (by kernel_rfl) (by kernel_rfl) (by kernel_rfl) (fun _ _ _ h => h) (Or.inl ⟨by kernel_rfl, ?y80⟩) (by assumption) ?_
        case y80 => (intro w hSw; (try dsimp only at hSw); first | (go_simp; done) | (go_simp; with_reducible rfl))
        simp only [Act.put, List.setIfInBounds_toArray, List.set_cons_zero, List.set_cons_succ]
        refine wpAnyH_take (i := 3) (oi := ⟨some 22, _, _, _, _, _⟩) (v := ?_) rfl (by kernel_rfl) (by kernel_rfl) (by kernel_rfl) (fun _ _ _ h => h) (Or.inl ⟨by kernel_rfl, ?y81⟩) (by assumption) ?_
        case y81 => (intro w hSw; (try dsimp only at hSw); first | (go_simp; done) | (go_simp; with_reducible rfl))
        simp only [Act.put, List.setIfInBounds_toArray, List.set_cons_zero, List.set_cons_succ]
        refine wpAnyH_take (i := 4) (oi := ⟨some 23, _, _, _, _, _⟩) (v := undef) rfl (by kernel_rfl) (by kernel_rfl) (by kernel_rfl) (fun _ _ _ h => h) (Or.inr ⟨by kernel_rfl, rfl⟩) (by assumption) ?_
        simp only [Act.put, List.setIfInBounds_toArray, List.set_cons_zero, List.set_cons_succ]
        refine wpAnyH_take (i := 5) (oi := ⟨some 24, _, _, _, _, _⟩) (v := undef) rfl (by kernel_rfl) (by kernel_rfl) (by kernel_rfl) (fun _ _ _ h => h) (Or.inr ⟨by kernel_rfl, rfl⟩) (by assumption) ?_
        simp only [Act.put, List.setIfInBounds_toArray, List.set_cons_zero, List.set_cons_succ]
        refine wpAnyH_take (i := 6) (oi := ⟨some 25, _, _, _, _, _⟩) (v := undef) rfl (by kernel_rfl) (by kernel_rfl) (by kernel_rfl) (fun _ _ _ h => h) (Or.inr ⟨by kernel_rfl, rfl⟩) (by assumption) ?_
        simp only [Act.put, List.setIfInBounds_toArray, List.set_cons_zero, List.set_cons_succ]
        refine wpAnyH_take (i := 7) (oi := ⟨some 26, _, _, _, _, _⟩) (v := undef) rfl (by kernel_rfl) (by kernel_rfl) (by kernel_rfl) (fun _ _ _ h => h) (Or.inr ⟨by kernel_rfl, rfl⟩) (by assumption) ?_
        simp only [Act.put, List.setIfInBounds_toArray, List.set_cons_zero, List.set_cons_succ]
        refine wpAnyH_take (i := 8) (oi := ⟨some 27, _, _, _, _, _⟩) (v := undef) rfl (by kernel_rfl) (by kernel_rfl) (by kernel_rfl) (fun _ _ _ h => h) (Or.inr ⟨by kernel_rfl, rfl⟩) (by assumption) ?_
        simp only [Act.put, List.setIfInBounds_toArray, List.set_cons_zero, List.set_cons_succ]
        refine wpAnyH_take (i := 9) (oi := ⟨some 28, _, _, _, _, _⟩) (v := undef) rfl (by kernel_rfl) (by kernel_rfl) (by kernel_rfl) (fun _ _ _ h => h) (Or.inr ⟨by kernel_rfl, rfl⟩) (by assumption) ?_
        simp only [Act.put, List.setIfInBounds_toArray, List.set_cons_zero, List.set_cons_succ]
        refine wpAnyH_take (i := 10) (oi := ⟨some 29, _, _, _, _, _⟩) (v := undef) rfl (by kernel_rfl) (by kernel_rfl) (by kernel_rfl) (fun _ _ _ h => h) (Or.inr ⟨by kernel_rfl, rfl⟩) (by assumption) ?_
        simp only [Act.put, List.setIfInBounds_toArray, List.set_cons_zero, List.set_cons_succ]
        refine wpAnyH_take (i := 11) (oi := ⟨some 30, _, _, _, _, _⟩) (v := ?_) rfl (by kernel_rfl) (by kernel_rfl) (by kernel_rfl) (fun _ _ _ h => h) (Or.inl ⟨by kernel_rfl, ?y82⟩) (by assumption) ?_
        case y82 => (intro w hSw; (try dsimp only at hSw); first | (go_simp; done) | (go_simp; with_reducible rfl))
        simp only [Act.put, List.setIfInBounds_toArray, List.set_cons_zero, List.set_cons_succ]
        refine wpAnyH_take (i := 12) (oi := ⟨some 4, _, _, _, _, _⟩) (v := ?_) rfl (by kernel_rfl) (by kernel_rfl) (by kernel_rfl) (fun _ _ _ h => h) (Or.inl ⟨by kernel_rfl, ?y83⟩) (by assumption) ?_
        case y83 => (intro w hSw; (try dsimp only at hSw); first | (go_simp; done) | (go_simp; with_reducible rfl))
        simp only [Act.put, List.setIfInBounds_toArray, List.set_cons_zero, List.set_cons_succ]
        refine wpAnyH_done (by kernel_rfl) ?_ _
        go_wp2
        go_ret
        exact ⟨ret_bool (by rw [← HV.out, HB.out]; rfl), B0.out.drew⟩
      | false =>
        go_enter Try.func62, Try.ntmps62
        go_wp2
        have X0 := Lib.hid (Blk.new w #[.int .i64 d0, .int .i64 d1, .int .i64 d2, .bool false, .bool d4, .bool d5, .string d6] 45)
        have B0 := Lib.hid ((Below.refl w.heap.size w).alloc (Nat.le_refl _) (.cells #[.int .i64 d0, .int .i64 d1, .int .i64 d2, .bool false, .bool d4, .bool d5, .string d6] 45))
        have q0 := X0.out.get 0 rfl
        have q1 := X0.out.get 1 rfl
        have q2 := X0.out.get 2 rfl
        have q3 := X0.out.get 3 rfl
        have q4 := X0.out.get 4 rfl
        have q5 := X0.out.get 5 rfl
        have q6 := X0.out.get 6 rfl
        have s0 := (B0.out.cell (p := ⟨b, off + m * 7, none⟩) hbl).trans z0
        have s1 := (B0.out.cell (p := ⟨b, off + m * 7 + 1, none⟩) hbl).trans z1
        have s2 := (B0.out.cell (p := ⟨b, off + m * 7 + 2, none⟩) hbl).trans z2
        have s3 := (B0.out.cell (p := ⟨b, off + m * 7 + 3, none⟩) hbl).trans z3
        have s4 := (B0.out.cell (p := ⟨b, off + m * 7 + 4, none⟩) hbl).trans z4
        have s5 := (B0.out.cell (p := ⟨b, off + m * 7 + 5, none⟩) hbl).trans z5
        have s6 := (B0.out.cell (p := ⟨b, off + m * 7 + 6, none⟩) hbl).trans z6
        refine wp_region_held_drew (S := fun w' => w'.cell? ⟨w.heap.size, 0, none⟩ = some (.int .i64 d0) ∧ w'.cell? ⟨w.heap.size, 1, none⟩ = some (.int .i64 d1) ∧ w'.cell? ⟨w.heap.size, 2, none⟩ = some (.int .i64 d2) ∧ w'.cell? ⟨w.heap.size, 3, none⟩ = some (.bool false) ∧ w'.cell? ⟨w.heap.size, 4, none⟩ = some (.bool d4) ∧ w'.cell? ⟨w.heap.size, 5, none⟩ = some (.bool d5) ∧ w'.cell? ⟨w.heap.size, 6, none⟩ = some (.string d6) ∧ w'.cell? ⟨b, off + m * 7, none⟩ = some (.int .i64 x0) ∧ w'.cell? ⟨b, off + m * 7 + 1, none⟩ = some (.int .i64 x1) ∧ w'.cell? ⟨b, off + m * 7 + 2, none⟩ = some (.int .i64 x2) ∧ w'.cell? ⟨b, off + m * 7 + 3, none⟩ = some (.bool x3) ∧ w'.cell? ⟨b, off + m * 7 + 4, none⟩ = some (.bool false) ∧ w'.cell? ⟨b, off + m * 7 + 5, none⟩ = some (.bool x5) ∧ w'.cell? ⟨b, off + m * 7 + 6, none⟩ = some (.string x6)) (by kernel_rfl) (by first | exact ⟨q0, q1, q2, q3, q4, q5, q6, s0, s1, s2, s3, s4, s5, s6⟩ | exact ⟨r0, r1, r2, r3, r4, r5, r6, t0, t1, t2, t3, t4, t5, t6⟩ | go_keep) (fun hHeld => ?_)
        refine wpAnyH_take (i := 0) (oi := ⟨some 19, _, _, _, _, _⟩) (v := ?_) rfl (by kernel_rfl) (by kernel_rfl) (by kernel_rfl) (fun _ _ _ h => h) (Or.inl ⟨by kernel_rfl, ?y84⟩) (by assumption) ?_
        case y84 => (intro w hSw; (try dsimp only at hSw); first | (go_simp; done) | (go_simp; with_reducible rfl))
        simp only [Act.put, List.setIfInBounds_toArray, List.set_cons_zero, List.set_cons_succ]
        refine wpAnyH_take (i := 1) (oi := ⟨some 20, _, _, _, _, _⟩) (v := ?_) rfl (by kernel_rfl) (by kernel_rfl) (by kernel_rfl) (fun _ _ _ h => h) (Or.inl ⟨by kernel_rfl, ?y85⟩) (by assumption) ?_
        case y85 => (intro w hSw; (try dsimp only at hSw); first | (go_simp; done) | (go_simp; with_reducible rfl))
        simp only [Act.put, List.setIfInBounds_toArray, List.set_cons_zero, List.set_cons_succ]
        refine wpAnyH_take (i := 2) (oi := ⟨some 21, _, _, _, _, _⟩) (v := ?_) rfl (by kernel_rfl) (by kernel_rfl) (by kernel_rfl) (fun _ _ _ h => h) (Or.inl ⟨by kernel_rfl, ?y86⟩) (by assumption) ?_
        case y86 => (intro w hSw; (try dsimp only at hSw); first | (go_simp; done) | (go_simp; with_reducible rfl))
        simp only [Act.put, List.setIfInBounds_toArray, List.set_cons_zero, List.set_cons_succ]
        refine wpAnyH_take (i := 3) (oi := ⟨some 22, _, _, _, _, _⟩) (v := ?_) rfl (by kernel_rfl) (by kernel_rfl) (by kernel_rfl) (fun _ _ _ h => h) (Or.inl ⟨by kernel_rfl, ?y87⟩) (by assumption) ?_
        case y87 => (intro w hSw; (try dsimp only at hSw); first | (go_simp; done) | (go_simp; with_reducible rfl))
        simp only [Act.put, List.setIfInBounds_toArray, List.set_cons_zero, List.set_cons_succ]
        refine wpAnyH_take (i := 4) (oi := ⟨some 23, _, _, _, _, _⟩) (v := ?_) rfl (by kernel_rfl) (by kernel_rfl) (by kernel_rfl) (fun _ _ _ h => h) (Or.inl ⟨by kernel_rfl, ?y88⟩) (by assumption) ?_
        case y88 => (intro w hSw; (try dsimp only at hSw); first | (go_simp; done) | (go_simp; with_reducible rfl))
        simp only [Act.put, List.setIfInBounds_toArray, List.set_cons_zero, List.set_cons_succ]
        refine wpAnyH_take (i := 5) (oi := ⟨some 24, _, _, _, _, _⟩) (v := ?_) rfl (by kernel_rfl) (by kernel_rfl) (by kernel_rfl) (fun _ _ _ h => h) (Or.inl ⟨by kernel_rfl, ?y89⟩) (by assumption) ?_
        case y89 => (intro w hSw; (try dsimp only at hSw); first | (go_simp; done) | (go_simp; with_reducible rfl))
        simp only [Act.put, List.setIfInBounds_toArray, List.set_cons_zero, List.set_cons_succ]
        refine wpAnyH_take (i := 6) (oi := ⟨some 25, _, _, _, _, _⟩) (v := ?_) rfl (by kernel_rfl) (by kernel_rfl) (by kernel_rfl) (fun _ _ _ h => h) (Or.inl ⟨by kernel_rfl, ?y90⟩) (by assumption) ?_
        case y90 => (intro w hSw; (try dsimp only at hSw); first | (go_simp; done) | (go_simp; with_reducible rfl))
        simp only [Act.put, List.setIfInBounds_toArray, List.set_cons_zero, List.set_cons_succ]
        refine wpAnyH_take (i := 7) (oi := ⟨some 26, _, _, _, _, _⟩) (v := ?_) rfl (by kernel_rfl) (by kernel_rfl) (by kernel_rfl) (fun _ _ _ h => h) (Or.inl ⟨by kernel_rfl, ?y91⟩) (by assumption) ?_
        case y91 => (intro w hSw; (try dsimp only at hSw); first | (go_simp; done) | (go_simp; with_reducible rfl))
        simp only [Act.put, List.setIfInBounds_toArray, List.set_cons_zero, List.set_cons_succ]
        refine wpAnyH_take (i := 8) (oi := ⟨some 27, _, _, _, _, _⟩) (v := ?_) rfl (by kernel_rfl) (by kernel_rfl) (by kernel_rfl) (fun _ _ _ h => h) (Or.inl ⟨by kernel_rfl, ?y92⟩) (by assumption) ?_
        case y92 => (intro w hSw; (try dsimp only at hSw); first | (go_simp; done) | (go_simp; with_reducible rfl))
        simp only [Act.put, List.setIfInBounds_toArray, List.set_cons_zero, List.set_cons_succ]
        refine wpAnyH_take (i := 9) (oi := ⟨some 28, _, _, _, _, _⟩) (v := ?_) rfl (by kernel_rfl) (by kernel_rfl) (by kernel_rfl) (fun _ _ _ h => h) (Or.inl ⟨by kernel_rfl, ?y93⟩) (by assumption) ?_
        case y93 => (intro w hSw; (try dsimp only at hSw); first | (go_simp; done) | (go_simp; with_reducible rfl))
        simp only [Act.put, List.setIfInBounds_toArray, List.set_cons_zero, List.set_cons_succ]
        refine wpAnyH_ready (rs := [10]) (by kernel_rfl) (by simp) ?_
        refine AllReadyH.cons (o := ⟨some 29, _, _, _, _, _⟩) rfl (fun K hK => ?_) AllReadyH.nil
        go_simp
        (go_at_call 64; (with_reducible refine (slike_any (like_comm _ _) _).mono ?_); rintro e w5 ⟨rfl, b5⟩; have X5 := Lib.hid (X0.out.drew.below b5 X0.out.drew.lt); have B5 := Lib.hid (bstep B0.out.drew b5 B0.out.size); have r0 := X5.out.get 0 rfl; have r1 := X5.out.get 1 rfl; have r2 := X5.out.get 2 rfl; have r3 := X5.out.get 3 rfl; have r4 := X5.out.get 4 rfl; have r5 := X5.out.get 5 rfl; have r6 := X5.out.get 6 rfl; have t0 := (B5.out.cell (p := ⟨b, off + m * 7, none⟩) hbl).trans z0; have t1 := (B5.out.cell (p := ⟨b, off + m * 7 + 1, none⟩) hbl).trans z1; have t2 := (B5.out.cell (p := ⟨b, off + m * 7 + 2, none⟩) hbl).trans z2; have t3 := (B5.out.cell (p := ⟨b, off + m * 7 + 3, none⟩) hbl).trans z3; have t4 := (B5.out.cell (p := ⟨b, off + m * 7 + 4, none⟩) hbl).trans z4; have t5 := (B5.out.cell (p := ⟨b, off + m * 7 + 5, none⟩) hbl).trans z5; have t6 := (B5.out.cell (p := ⟨b, off + m * 7 + 6, none⟩) hbl).trans z6; clear b5)
        first | go_wp2_with fail | skip
        refine hK.out _ _ (by first | exact ⟨q0, q1, q2, q3, q4, q5, q6, s0, s1, s2, s3, s4, s5, s6⟩ | exact ⟨r0, r1, r2, r3, r4, r5, r6, t0, t1, t2, t3, t4, t5, t6⟩ | go_keep) (fun hHeld => ?_)
        clear hK K
        try simp only [Act.put, List.setIfInBounds_toArray, List.set_cons_zero, List.set_cons_succ]
        refine wpAnyH_take (i := 11) (oi := ⟨some 30, _, _, _, _, _⟩) (v := ?_) rfl (by kernel_rfl) (by kernel_rfl) (by kernel_rfl) (fun _ _ _ h => h) (Or.inl ⟨by kernel_rfl, ?y94⟩) (by assumption) ?_
        case y94 => (intro w hSw; (try dsimp only at hSw); first | (go_simp; done) | (go_simp; with_reducible rfl))
        simp only [Act.put, List.setIfInBounds_toArray, List.set_cons_zero, List.set_cons_succ]
        refine wpAnyH_take (i := 12) (oi := ⟨some 4, _, _, _, _, _⟩) (v := ?_) rfl (by kernel_rfl) (by kernel_rfl) (by kernel_rfl) (fun _ _ _ h => h) (Or.inl ⟨by kernel_rfl, ?y95⟩) (by assumption) ?_
        case y95 => (intro w hSw; (try dsimp only at hSw); first | (go_simp; done) | (go_simp; with_reducible rfl))
        simp only [Act.put, List.setIfInBounds_toArray, List.set_cons_zero, List.set_cons_succ]
        refine wpAnyH_done (by kernel_rfl) ?_ _
        go_wp2
        go_ret
        exact ⟨ret_bool (by rw [← HV.out, HB.out]; rfl), B5.out⟩
end Go.Proofs.Ytkhaodbcnnlhaaa
