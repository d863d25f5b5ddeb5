/-
  When an association is valid, in the program and in the reference. Conditions: those that each theorem bears.
-/
import Derived.Test.YtgljbbdhhgamjaaSideV
namespace Go.Proofs.Ytgljbbdhhgamjaa
open Go.ChangeShapes Go.WideShapes Go.ChangeAt Go.RowKit
set_option linter.unusedVariables false
set_option linter.unusedSimpArgs false
theorem side_len {tag st fi ac : Int} {ps : List Dat} (h : sideB tag st fi ac ps = true) : ps.length ≤ 12 := by
  unfold sideB at h
  split at h
  · simp only [Bool.and_eq_true, decide_eq_true_eq] at h
    omega
  · unfold headB at h
    simp only [Bool.and_eq_true, decide_eq_true_eq] at h
    omega
def assocB (va vb by' : Bool) (fr to' sta tag tag' : Int) (m m' : Nat) : Bool := va && vb && decide (1 ≤ fr ∧ fr ≤ 65535 ∧ 1 ≤ to' ∧ to' ≤ 65535 ∧ ¬ fr = to' ∧ 0 ≤ sta ∧ sta ≤ 7 ∧ (0 < tag ↔ 1 ≤ sta) ∧ (sta = 7 ∨ (0 < tag' ↔ 2 ≤ sta)) ∧ (3 ≤ sta ∨ m + m' = 0)) && (!by' || decide (5 ≤ sta))
theorem sopen_any (n : Int) (w : World) : Calls Try.prog 75 #[.int .i64 n] w fun e w' => e = .returned (.bool (inB n 3 7)) ∧ w = w' := by
  go_enter Try.func75, Try.ntmps75
  go_wp2_with (go_at_call 50; refine (in_any _ _ _ _).mono ?_; rintro e w' ⟨rfl, rfl⟩)
  go_ret
  exact ⟨rfl, rfl⟩
set_option maxHeartbeats 6400000 in
set_option maxRecDepth 100000 in
theorem iassoc_valid (fr to' sta : Int) (by' : Bool) (tag st fi ac : Int) (A : Option Addr) (m c : Nat) (ps : List Dat) (tag' st' fi' ac' : Int) (A' : Option Addr) (m' c' : Nat) (ps' : List Dat) {va vb v : Bool} (hva : sideB tag st fi ac ps = va) (hvb : sideB tag' st' fi' ac' ps' = vb) (hv : assocB va vb by' fr to' sta tag tag' m m' = v) (w : World)
    (hp : Sl w w.heap.size A (dats ps)) (hm : ps.length = m) (hmd : m ≤ c) (hd2 : c ≤ 9223372036854775807) (ht : Dats ps) (hp' : Sl w w.heap.size A' (dats ps')) (hm' : ps'.length = m') (hmd' : m' ≤ c') (hd2' : c' ≤ 9223372036854775807) (ht' : Dats ps') :
    Calls Try.prog 43 #[.agg #[.int .i64 fr, .int .i64 to', .int .i64 sta, .bool by', .int .i64 tag, .int .i64 st, .int .i64 fi, .slice A m c, .int .i64 ac, .int .i64 tag', .int .i64 st', .int .i64 fi', .slice A' m' c', .int .i64 ac']] w fun e w' => e = .returned (.bool v) ∧ Below w.heap.size w w' := by
  have HP := Lib.hid hp; have HM := Lib.hid hm; have HT := Lib.hid ht; have HP' := Lib.hid hp'; have HM' := Lib.hid hm'; have HT' := Lib.hid ht'; have HVA := Lib.hid hva; have HVB := Lib.hid hvb; have HE := Lib.hid hv.symm; clear hp hm ht hp' hm' ht' hva hvb hv
  unfold assocB at HE
  by_cases hb : fr < 1
  · skip
    have HR := Lib.hid (by rw [HE.out, decide_eq_false (show ¬ (1 ≤ fr ∧ fr ≤ 65535 ∧ 1 ≤ to' ∧ to' ≤ 65535 ∧ ¬ fr = to' ∧ 0 ≤ sta ∧ sta ≤ 7 ∧ (0 < tag ↔ 1 ≤ sta) ∧ (sta = 7 ∨ (0 < tag' ↔ 2 ≤ sta)) ∧ (3 ≤ sta ∨ m + m' = 0)) by omega)]; simp : v = false)
    clear HE
    go_enter Try.func43, Try.ntmps43
    go_wp2_with fail
    go_ret
    exact ⟨ret_bool HR.out.symm, by go_grown⟩
  have h0 := hb
  clear hb
  by_cases hb : 65535 < fr
  · skip
    have HR := Lib.hid (by rw [HE.out, decide_eq_false (show ¬ (1 ≤ fr ∧ fr ≤ 65535 ∧ 1 ≤ to' ∧ to' ≤ 65535 ∧ ¬ fr = to' ∧ 0 ≤ sta ∧ sta ≤ 7 ∧ (0 < tag ↔ 1 ≤ sta) ∧ (sta = 7 ∨ (0 < tag' ↔ 2 ≤ sta)) ∧ (3 ≤ sta ∨ m + m' = 0)) by omega)]; simp : v = false)
    clear HE
    go_enter Try.func43, Try.ntmps43
    go_wp2_with fail
    go_ret
    exact ⟨ret_bool HR.out.symm, by go_grown⟩
  have h1 := hb
  clear hb
  by_cases hb : to' < 1
  · skip
    have HR := Lib.hid (by rw [HE.out, decide_eq_false (show ¬ (1 ≤ fr ∧ fr ≤ 65535 ∧ 1 ≤ to' ∧ to' ≤ 65535 ∧ ¬ fr = to' ∧ 0 ≤ sta ∧ sta ≤ 7 ∧ (0 < tag ↔ 1 ≤ sta) ∧ (sta = 7 ∨ (0 < tag' ↔ 2 ≤ sta)) ∧ (3 ≤ sta ∨ m + m' = 0)) by omega)]; simp : v = false)
    clear HE
    go_enter Try.func43, Try.ntmps43
    go_wp2_with fail
    go_ret
    exact ⟨ret_bool HR.out.symm, by go_grown⟩
  have h2 := hb
  clear hb
  by_cases hb : 65535 < to'
  · skip
    have HR := Lib.hid (by rw [HE.out, decide_eq_false (show ¬ (1 ≤ fr ∧ fr ≤ 65535 ∧ 1 ≤ to' ∧ to' ≤ 65535 ∧ ¬ fr = to' ∧ 0 ≤ sta ∧ sta ≤ 7 ∧ (0 < tag ↔ 1 ≤ sta) ∧ (sta = 7 ∨ (0 < tag' ↔ 2 ≤ sta)) ∧ (3 ≤ sta ∨ m + m' = 0)) by omega)]; simp : v = false)
    clear HE
    go_enter Try.func43, Try.ntmps43
    go_wp2_with fail
    go_ret
    exact ⟨ret_bool HR.out.symm, by go_grown⟩
  have h3 := hb
  clear hb
  by_cases hb : fr = to'
  · subst hb
    have HR := Lib.hid (by rw [HE.out, decide_eq_false (show ¬ (1 ≤ fr ∧ fr ≤ 65535 ∧ 1 ≤ fr ∧ fr ≤ 65535 ∧ ¬ fr = fr ∧ 0 ≤ sta ∧ sta ≤ 7 ∧ (0 < tag ↔ 1 ≤ sta) ∧ (sta = 7 ∨ (0 < tag' ↔ 2 ≤ sta)) ∧ (3 ≤ sta ∨ m + m' = 0)) by omega)]; simp : v = false)
    clear HE
    go_enter Try.func43, Try.ntmps43
    go_wp2_with fail
    go_ret
    exact ⟨ret_bool HR.out.symm, by go_grown⟩
  have en : (fr == to') = false := by simpa using hb
  by_cases hc : sta < 0
  · skip
    have HR := Lib.hid (by rw [HE.out, decide_eq_false (show ¬ (1 ≤ fr ∧ fr ≤ 65535 ∧ 1 ≤ to' ∧ to' ≤ 65535 ∧ ¬ fr = to' ∧ 0 ≤ sta ∧ sta ≤ 7 ∧ (0 < tag ↔ 1 ≤ sta) ∧ (sta = 7 ∨ (0 < tag' ↔ 2 ≤ sta)) ∧ (3 ≤ sta ∨ m + m' = 0)) by omega)]; simp : v = false)
    clear HE
    go_enter Try.func43, Try.ntmps43
    go_wp2_with fail
    go_ret
    exact ⟨ret_bool HR.out.symm, by go_grown⟩
  have hs0 := hc
  clear hc
  by_cases hc : 7 < sta
  · skip
    have HR := Lib.hid (by rw [HE.out, decide_eq_false (show ¬ (1 ≤ fr ∧ fr ≤ 65535 ∧ 1 ≤ to' ∧ to' ≤ 65535 ∧ ¬ fr = to' ∧ 0 ≤ sta ∧ sta ≤ 7 ∧ (0 < tag ↔ 1 ≤ sta) ∧ (sta = 7 ∨ (0 < tag' ↔ 2 ≤ sta)) ∧ (3 ≤ sta ∨ m + m' = 0)) by omega)]; simp : v = false)
    clear HE
    go_enter Try.func43, Try.ntmps43
    go_wp2_with fail
    go_ret
    exact ⟨ret_bool HR.out.symm, by go_grown⟩
  have hs1 := hc
  clear hc
  go_enter Try.func43, Try.ntmps43
  go_wp2_with fail
  refine (iside_valid _ _ _ _ _ _ _ ps HVA.out _ ((HP.out.alloc (Nat.le_refl _) _).more (by simp)) HM.out hmd hd2 HT.out).mono ?_
  rintro e w1 ⟨rfl, b1'⟩
  obtain ⟨q1, z1, b1⟩ := boxed b1'
  have X1 := Lib.hid q1
  have B1 := Lib.hid b1
  clear b1' q1 b1
  have x0 : w1.cell? ⟨w.heap.size, 0, none⟩ = some (.int .i64 fr) := X1.out.get 0 rfl
  have x1 : w1.cell? ⟨w.heap.size, 1, none⟩ = some (.int .i64 to') := X1.out.get 1 rfl
  have x2 : w1.cell? ⟨w.heap.size, 2, none⟩ = some (.int .i64 sta) := X1.out.get 2 rfl
  have x3 : w1.cell? ⟨w.heap.size, 3, none⟩ = some (.bool by') := X1.out.get 3 rfl
  have x4 : w1.cell? ⟨w.heap.size, 4, none⟩ = some (.int .i64 tag) := X1.out.get 4 rfl
  have x5 : w1.cell? ⟨w.heap.size, 5, none⟩ = some (.int .i64 st) := X1.out.get 5 rfl
  have x6 : w1.cell? ⟨w.heap.size, 6, none⟩ = some (.int .i64 fi) := X1.out.get 6 rfl
  have x7 : w1.cell? ⟨w.heap.size, 7, none⟩ = some (.slice A m c) := X1.out.get 7 rfl
  have x8 : w1.cell? ⟨w.heap.size, 8, none⟩ = some (.int .i64 ac) := X1.out.get 8 rfl
  have x9 : w1.cell? ⟨w.heap.size, 9, none⟩ = some (.int .i64 tag') := X1.out.get 9 rfl
  have x10 : w1.cell? ⟨w.heap.size, 10, none⟩ = some (.int .i64 st') := X1.out.get 10 rfl
  have x11 : w1.cell? ⟨w.heap.size, 11, none⟩ = some (.int .i64 fi') := X1.out.get 11 rfl
  have x12 : w1.cell? ⟨w.heap.size, 12, none⟩ = some (.slice A' m' c') := X1.out.get 12 rfl
  have x13 : w1.cell? ⟨w.heap.size, 13, none⟩ = some (.int .i64 ac') := X1.out.get 13 rfl
  cases va with
  | false =>
    have HR := Lib.hid (by rw [HE.out]; simp : v = false)
    clear HE
    go_wp2_with fail
    go_ret
    exact ⟨ret_bool HR.out.symm, B1.out⟩
  | true =>
    go_wp2_with fail
    refine (iside_valid _ _ _ _ _ _ _ ps' HVB.out _ ((HP'.out.below B1.out (Nat.le_refl _)).more B1.out.size) HM'.out hmd' hd2' HT'.out).mono ?_
    rintro e w2 ⟨rfl, b2⟩
    have X2 := Lib.hid (X1.out.below b2 X1.out.lt)
    have B2 := Lib.hid (bstep B1.out b2 B1.out.size)
    clear b2 x0 x1 x2 x3 x4 x5 x6 x7 x8 x9 x10 x11 x12 x13
    clear X1 B1 z1
    have x0 : w2.cell? ⟨w.heap.size, 0, none⟩ = some (.int .i64 fr) := X2.out.get 0 rfl
    have x1 : w2.cell? ⟨w.heap.size, 1, none⟩ = some (.int .i64 to') := X2.out.get 1 rfl
    have x2 : w2.cell? ⟨w.heap.size, 2, none⟩ = some (.int .i64 sta) := X2.out.get 2 rfl
    have x3 : w2.cell? ⟨w.heap.size, 3, none⟩ = some (.bool by') := X2.out.get 3 rfl
    have x4 : w2.cell? ⟨w.heap.size, 4, none⟩ = some (.int .i64 tag) := X2.out.get 4 rfl
    have x5 : w2.cell? ⟨w.heap.size, 5, none⟩ = some (.int .i64 st) := X2.out.get 5 rfl
    have x6 : w2.cell? ⟨w.heap.size, 6, none⟩ = some (.int .i64 fi) := X2.out.get 6 rfl
    have x7 : w2.cell? ⟨w.heap.size, 7, none⟩ = some (.slice A m c) := X2.out.get 7 rfl
    have x8 : w2.cell? ⟨w.heap.size, 8, none⟩ = some (.int .i64 ac) := X2.out.get 8 rfl
    have x9 : w2.cell? ⟨w.heap.size, 9, none⟩ = some (.int .i64 tag') := X2.out.get 9 rfl
    have x10 : w2.cell? ⟨w.heap.size, 10, none⟩ = some (.int .i64 st') := X2.out.get 10 rfl
    have x11 : w2.cell? ⟨w.heap.size, 11, none⟩ = some (.int .i64 fi') := X2.out.get 11 rfl
    have x12 : w2.cell? ⟨w.heap.size, 12, none⟩ = some (.slice A' m' c') := X2.out.get 12 rfl
    have x13 : w2.cell? ⟨w.heap.size, 13, none⟩ = some (.int .i64 ac') := X2.out.get 13 rfl
    cases vb with
    | false =>
      have HR := Lib.hid (by rw [HE.out]; simp : v = false)
      clear HE
      go_wp2_with fail
      go_ret
      exact ⟨ret_bool HR.out.symm, B2.out⟩
    | true =>
      have l1 : m ≤ 12 := HM.out ▸ side_len HVA.out
      have l2 : m' ≤ 12 := HM'.out ▸ side_len HVB.out
      have hsum := IntWalk.i64_in ((m : Int) + (m' : Int)) (by omega)
      clear HVA HVB
      by_cases s1 : 1 ≤ sta
      · by_cases t1 : 0 < tag
        · skip
          by_cases s7 : sta = 7
          · have e7 : (sta != 7) = false := by simpa using s7
            skip
            have s3 : ¬ sta < 3 := by omega
            cases by' with
            | false =>
              have HR := Lib.hid (by rw [HE.out, decide_eq_true (show 1 ≤ fr ∧ fr ≤ 65535 ∧ 1 ≤ to' ∧ to' ≤ 65535 ∧ ¬ fr = to' ∧ 0 ≤ sta ∧ sta ≤ 7 ∧ (0 < tag ↔ 1 ≤ sta) ∧ (sta = 7 ∨ (0 < tag' ↔ 2 ≤ sta)) ∧ (3 ≤ sta ∨ m + m' = 0) by omega)]; rfl : v = true)
              clear HE
              try have dt1 := decide_eq_true t1
              try have dt2 := decide_eq_true t2
              try have ds1 := decide_eq_true s1
              try have ds2 := decide_eq_true s2
              try have ds3 := decide_eq_true s3
              try have ds5 := decide_eq_true s5
              try have dhmm := decide_eq_true hmm
              try have dt1 := decide_eq_false t1
              try have dt2 := decide_eq_false t2
              try have ds1 := decide_eq_false s1
              try have ds2 := decide_eq_false s2
              try have ds3 := decide_eq_false s3
              try have ds5 := decide_eq_false s5
              try have dhmm := decide_eq_false hmm
              go_wp2_with fail
              go_ret
              exact ⟨ret_bool (by first | exact HR.out.symm | (rw [HR.out]; first | exact decide_eq_true (by omega) | exact decide_eq_false (by omega))), B2.out⟩
            | true =>
              have s5 : 5 ≤ sta := by omega
              have HR := Lib.hid (by rw [HE.out, decide_eq_true (show 1 ≤ fr ∧ fr ≤ 65535 ∧ 1 ≤ to' ∧ to' ≤ 65535 ∧ ¬ fr = to' ∧ 0 ≤ sta ∧ sta ≤ 7 ∧ (0 < tag ↔ 1 ≤ sta) ∧ (sta = 7 ∨ (0 < tag' ↔ 2 ≤ sta)) ∧ (3 ≤ sta ∨ m + m' = 0) by omega), decide_eq_true s5]; rfl : v = true)
              clear HE
              try have dt1 := decide_eq_true t1
              try have dt2 := decide_eq_true t2
              try have ds1 := decide_eq_true s1
              try have ds2 := decide_eq_true s2
              try have ds3 := decide_eq_true s3
              try have ds5 := decide_eq_true s5
              try have dhmm := decide_eq_true hmm
              try have dt1 := decide_eq_false t1
              try have dt2 := decide_eq_false t2
              try have ds1 := decide_eq_false s1
              try have ds2 := decide_eq_false s2
              try have ds3 := decide_eq_false s3
              try have ds5 := decide_eq_false s5
              try have dhmm := decide_eq_false hmm
              go_wp2_with fail
              go_ret
              exact ⟨ret_bool (by first | exact HR.out.symm | (rw [HR.out]; first | exact decide_eq_true (by omega) | exact decide_eq_false (by omega))), B2.out⟩
          · have e7 : (sta != 7) = true := by simpa using s7
            by_cases s2 : 2 ≤ sta
            · by_cases t2 : 0 < tag'
              · skip
                by_cases s3' : sta = 2
                · skip
                  have s3 : sta < 3 := by omega
                  by_cases hmm : (0 : Int) < (m : Int) + (m' : Int)
                  · skip
                    have HR := Lib.hid (by rw [HE.out, decide_eq_false (show ¬ (1 ≤ fr ∧ fr ≤ 65535 ∧ 1 ≤ to' ∧ to' ≤ 65535 ∧ ¬ fr = to' ∧ 0 ≤ sta ∧ sta ≤ 7 ∧ (0 < tag ↔ 1 ≤ sta) ∧ (sta = 7 ∨ (0 < tag' ↔ 2 ≤ sta)) ∧ (3 ≤ sta ∨ m + m' = 0)) by omega)]; simp : v = false)
                    clear HE
                    try have dt1 := decide_eq_true t1
                    try have dt2 := decide_eq_true t2
                    try have ds1 := decide_eq_true s1
                    try have ds2 := decide_eq_true s2
                    try have ds3 := decide_eq_true s3
                    try have ds5 := decide_eq_true s5
                    try have dhmm := decide_eq_true hmm
                    try have dt1 := decide_eq_false t1
                    try have dt2 := decide_eq_false t2
                    try have ds1 := decide_eq_false s1
                    try have ds2 := decide_eq_false s2
                    try have ds3 := decide_eq_false s3
                    try have ds5 := decide_eq_false s5
                    try have dhmm := decide_eq_false hmm
                    go_wp2_with fail
                    go_ret
                    exact ⟨ret_bool (by first | exact HR.out.symm | (rw [HR.out]; first | exact decide_eq_true (by omega) | exact decide_eq_false (by omega))), B2.out⟩
                  · skip
                    cases by' with
                    | false =>
                      have HR := Lib.hid (by rw [HE.out, decide_eq_true (show 1 ≤ fr ∧ fr ≤ 65535 ∧ 1 ≤ to' ∧ to' ≤ 65535 ∧ ¬ fr = to' ∧ 0 ≤ sta ∧ sta ≤ 7 ∧ (0 < tag ↔ 1 ≤ sta) ∧ (sta = 7 ∨ (0 < tag' ↔ 2 ≤ sta)) ∧ (3 ≤ sta ∨ m + m' = 0) by omega)]; rfl : v = true)
                      clear HE
                      try have dt1 := decide_eq_true t1
                      try have dt2 := decide_eq_true t2
                      try have ds1 := decide_eq_true s1
                      try have ds2 := decide_eq_true s2
                      try have ds3 := decide_eq_true s3
                      try have ds5 := decide_eq_true s5
                      try have dhmm := decide_eq_true hmm
                      try have dt1 := decide_eq_false t1
                      try have dt2 := decide_eq_false t2
                      try have ds1 := decide_eq_false s1
                      try have ds2 := decide_eq_false s2
                      try have ds3 := decide_eq_false s3
                      try have ds5 := decide_eq_false s5
                      try have dhmm := decide_eq_false hmm
                      go_wp2_with fail
                      go_ret
                      exact ⟨ret_bool (by first | exact HR.out.symm | (rw [HR.out]; first | exact decide_eq_true (by omega) | exact decide_eq_false (by omega))), B2.out⟩
                    | true =>
                      have s5 : ¬ 5 ≤ sta := by omega
                      have HR := Lib.hid (by rw [HE.out, decide_eq_true (show 1 ≤ fr ∧ fr ≤ 65535 ∧ 1 ≤ to' ∧ to' ≤ 65535 ∧ ¬ fr = to' ∧ 0 ≤ sta ∧ sta ≤ 7 ∧ (0 < tag ↔ 1 ≤ sta) ∧ (sta = 7 ∨ (0 < tag' ↔ 2 ≤ sta)) ∧ (3 ≤ sta ∨ m + m' = 0) by omega), decide_eq_false s5]; rfl : v = false)
                      clear HE
                      try have dt1 := decide_eq_true t1
                      try have dt2 := decide_eq_true t2
                      try have ds1 := decide_eq_true s1
                      try have ds2 := decide_eq_true s2
                      try have ds3 := decide_eq_true s3
                      try have ds5 := decide_eq_true s5
                      try have dhmm := decide_eq_true hmm
                      try have dt1 := decide_eq_false t1
                      try have dt2 := decide_eq_false t2
                      try have ds1 := decide_eq_false s1
                      try have ds2 := decide_eq_false s2
                      try have ds3 := decide_eq_false s3
                      try have ds5 := decide_eq_false s5
                      try have dhmm := decide_eq_false hmm
                      go_wp2_with fail
                      go_ret
                      exact ⟨ret_bool (by first | exact HR.out.symm | (rw [HR.out]; first | exact decide_eq_true (by omega) | exact decide_eq_false (by omega))), B2.out⟩
                · skip
                  have s3 : ¬ sta < 3 := by omega
                  cases by' with
                  | false =>
                    have HR := Lib.hid (by rw [HE.out, decide_eq_true (show 1 ≤ fr ∧ fr ≤ 65535 ∧ 1 ≤ to' ∧ to' ≤ 65535 ∧ ¬ fr = to' ∧ 0 ≤ sta ∧ sta ≤ 7 ∧ (0 < tag ↔ 1 ≤ sta) ∧ (sta = 7 ∨ (0 < tag' ↔ 2 ≤ sta)) ∧ (3 ≤ sta ∨ m + m' = 0) by omega)]; rfl : v = true)
                    clear HE
                    try have dt1 := decide_eq_true t1
                    try have dt2 := decide_eq_true t2
                    try have ds1 := decide_eq_true s1
                    try have ds2 := decide_eq_true s2
                    try have ds3 := decide_eq_true s3
                    try have ds5 := decide_eq_true s5
                    try have dhmm := decide_eq_true hmm
                    try have dt1 := decide_eq_false t1
                    try have dt2 := decide_eq_false t2
                    try have ds1 := decide_eq_false s1
                    try have ds2 := decide_eq_false s2
                    try have ds3 := decide_eq_false s3
                    try have ds5 := decide_eq_false s5
                    try have dhmm := decide_eq_false hmm
                    go_wp2_with fail
                    go_ret
                    exact ⟨ret_bool (by first | exact HR.out.symm | (rw [HR.out]; first | exact decide_eq_true (by omega) | exact decide_eq_false (by omega))), B2.out⟩
                  | true =>
                    by_cases s5 : 5 ≤ sta
                    · skip
                      have HR := Lib.hid (by rw [HE.out, decide_eq_true (show 1 ≤ fr ∧ fr ≤ 65535 ∧ 1 ≤ to' ∧ to' ≤ 65535 ∧ ¬ fr = to' ∧ 0 ≤ sta ∧ sta ≤ 7 ∧ (0 < tag ↔ 1 ≤ sta) ∧ (sta = 7 ∨ (0 < tag' ↔ 2 ≤ sta)) ∧ (3 ≤ sta ∨ m + m' = 0) by omega), decide_eq_true s5]; rfl : v = true)
                      clear HE
                      try have dt1 := decide_eq_true t1
                      try have dt2 := decide_eq_true t2
                      try have ds1 := decide_eq_true s1
                      try have ds2 := decide_eq_true s2
                      try have ds3 := decide_eq_true s3
                      try have ds5 := decide_eq_true s5
                      try have dhmm := decide_eq_true hmm
                      try have dt1 := decide_eq_false t1
                      try have dt2 := decide_eq_false t2
                      try have ds1 := decide_eq_false s1
                      try have ds2 := decide_eq_false s2
                      try have ds3 := decide_eq_false s3
                      try have ds5 := decide_eq_false s5
                      try have dhmm := decide_eq_false hmm
                      go_wp2_with fail
                      go_ret
                      exact ⟨ret_bool (by first | exact HR.out.symm | (rw [HR.out]; first | exact decide_eq_true (by omega) | exact decide_eq_false (by omega))), B2.out⟩
                    · skip
                      have HR := Lib.hid (by rw [HE.out, decide_eq_true (show 1 ≤ fr ∧ fr ≤ 65535 ∧ 1 ≤ to' ∧ to' ≤ 65535 ∧ ¬ fr = to' ∧ 0 ≤ sta ∧ sta ≤ 7 ∧ (0 < tag ↔ 1 ≤ sta) ∧ (sta = 7 ∨ (0 < tag' ↔ 2 ≤ sta)) ∧ (3 ≤ sta ∨ m + m' = 0) by omega), decide_eq_false s5]; rfl : v = false)
                      clear HE
                      try have dt1 := decide_eq_true t1
                      try have dt2 := decide_eq_true t2
                      try have ds1 := decide_eq_true s1
                      try have ds2 := decide_eq_true s2
                      try have ds3 := decide_eq_true s3
                      try have ds5 := decide_eq_true s5
                      try have dhmm := decide_eq_true hmm
                      try have dt1 := decide_eq_false t1
                      try have dt2 := decide_eq_false t2
                      try have ds1 := decide_eq_false s1
                      try have ds2 := decide_eq_false s2
                      try have ds3 := decide_eq_false s3
                      try have ds5 := decide_eq_false s5
                      try have dhmm := decide_eq_false hmm
                      go_wp2_with fail
                      go_ret
                      exact ⟨ret_bool (by first | exact HR.out.symm | (rw [HR.out]; first | exact decide_eq_true (by omega) | exact decide_eq_false (by omega))), B2.out⟩
              · skip
                have HR := Lib.hid (by rw [HE.out, decide_eq_false (show ¬ (1 ≤ fr ∧ fr ≤ 65535 ∧ 1 ≤ to' ∧ to' ≤ 65535 ∧ ¬ fr = to' ∧ 0 ≤ sta ∧ sta ≤ 7 ∧ (0 < tag ↔ 1 ≤ sta) ∧ (sta = 7 ∨ (0 < tag' ↔ 2 ≤ sta)) ∧ (3 ≤ sta ∨ m + m' = 0)) by omega)]; simp : v = false)
                clear HE
                try have dt1 := decide_eq_true t1
                try have dt2 := decide_eq_true t2
                try have ds1 := decide_eq_true s1
                try have ds2 := decide_eq_true s2
                try have ds3 := decide_eq_true s3
                try have ds5 := decide_eq_true s5
                try have dhmm := decide_eq_true hmm
                try have dt1 := decide_eq_false t1
                try have dt2 := decide_eq_false t2
                try have ds1 := decide_eq_false s1
                try have ds2 := decide_eq_false s2
                try have ds3 := decide_eq_false s3
                try have ds5 := decide_eq_false s5
                try have dhmm := decide_eq_false hmm
                go_wp2_with fail
                go_ret
                exact ⟨ret_bool (by first | exact HR.out.symm | (rw [HR.out]; first | exact decide_eq_true (by omega) | exact decide_eq_false (by omega))), B2.out⟩
            · by_cases t2 : 0 < tag'
              · skip
                have HR := Lib.hid (by rw [HE.out, decide_eq_false (show ¬ (1 ≤ fr ∧ fr ≤ 65535 ∧ 1 ≤ to' ∧ to' ≤ 65535 ∧ ¬ fr = to' ∧ 0 ≤ sta ∧ sta ≤ 7 ∧ (0 < tag ↔ 1 ≤ sta) ∧ (sta = 7 ∨ (0 < tag' ↔ 2 ≤ sta)) ∧ (3 ≤ sta ∨ m + m' = 0)) by omega)]; simp : v = false)
                clear HE
                try have dt1 := decide_eq_true t1
                try have dt2 := decide_eq_true t2
                try have ds1 := decide_eq_true s1
                try have ds2 := decide_eq_true s2
                try have ds3 := decide_eq_true s3
                try have ds5 := decide_eq_true s5
                try have dhmm := decide_eq_true hmm
                try have dt1 := decide_eq_false t1
                try have dt2 := decide_eq_false t2
                try have ds1 := decide_eq_false s1
                try have ds2 := decide_eq_false s2
                try have ds3 := decide_eq_false s3
                try have ds5 := decide_eq_false s5
                try have dhmm := decide_eq_false hmm
                go_wp2_with fail
                go_ret
                exact ⟨ret_bool (by first | exact HR.out.symm | (rw [HR.out]; first | exact decide_eq_true (by omega) | exact decide_eq_false (by omega))), B2.out⟩
              · skip
                have s3 : sta < 3 := by omega
                by_cases hmm : (0 : Int) < (m : Int) + (m' : Int)
                · skip
                  have HR := Lib.hid (by rw [HE.out, decide_eq_false (show ¬ (1 ≤ fr ∧ fr ≤ 65535 ∧ 1 ≤ to' ∧ to' ≤ 65535 ∧ ¬ fr = to' ∧ 0 ≤ sta ∧ sta ≤ 7 ∧ (0 < tag ↔ 1 ≤ sta) ∧ (sta = 7 ∨ (0 < tag' ↔ 2 ≤ sta)) ∧ (3 ≤ sta ∨ m + m' = 0)) by omega)]; simp : v = false)
                  clear HE
                  try have dt1 := decide_eq_true t1
                  try have dt2 := decide_eq_true t2
                  try have ds1 := decide_eq_true s1
                  try have ds2 := decide_eq_true s2
                  try have ds3 := decide_eq_true s3
                  try have ds5 := decide_eq_true s5
                  try have dhmm := decide_eq_true hmm
                  try have dt1 := decide_eq_false t1
                  try have dt2 := decide_eq_false t2
                  try have ds1 := decide_eq_false s1
                  try have ds2 := decide_eq_false s2
                  try have ds3 := decide_eq_false s3
                  try have ds5 := decide_eq_false s5
                  try have dhmm := decide_eq_false hmm
                  go_wp2_with fail
                  go_ret
                  exact ⟨ret_bool (by first | exact HR.out.symm | (rw [HR.out]; first | exact decide_eq_true (by omega) | exact decide_eq_false (by omega))), B2.out⟩
                · skip
                  cases by' with
                  | false =>
                    have HR := Lib.hid (by rw [HE.out, decide_eq_true (show 1 ≤ fr ∧ fr ≤ 65535 ∧ 1 ≤ to' ∧ to' ≤ 65535 ∧ ¬ fr = to' ∧ 0 ≤ sta ∧ sta ≤ 7 ∧ (0 < tag ↔ 1 ≤ sta) ∧ (sta = 7 ∨ (0 < tag' ↔ 2 ≤ sta)) ∧ (3 ≤ sta ∨ m + m' = 0) by omega)]; rfl : v = true)
                    clear HE
                    try have dt1 := decide_eq_true t1
                    try have dt2 := decide_eq_true t2
                    try have ds1 := decide_eq_true s1
                    try have ds2 := decide_eq_true s2
                    try have ds3 := decide_eq_true s3
                    try have ds5 := decide_eq_true s5
                    try have dhmm := decide_eq_true hmm
                    try have dt1 := decide_eq_false t1
                    try have dt2 := decide_eq_false t2
                    try have ds1 := decide_eq_false s1
                    try have ds2 := decide_eq_false s2
                    try have ds3 := decide_eq_false s3
                    try have ds5 := decide_eq_false s5
                    try have dhmm := decide_eq_false hmm
                    go_wp2_with fail
                    go_ret
                    exact ⟨ret_bool (by first | exact HR.out.symm | (rw [HR.out]; first | exact decide_eq_true (by omega) | exact decide_eq_false (by omega))), B2.out⟩
                  | true =>
                    have s5 : ¬ 5 ≤ sta := by omega
                    have HR := Lib.hid (by rw [HE.out, decide_eq_true (show 1 ≤ fr ∧ fr ≤ 65535 ∧ 1 ≤ to' ∧ to' ≤ 65535 ∧ ¬ fr = to' ∧ 0 ≤ sta ∧ sta ≤ 7 ∧ (0 < tag ↔ 1 ≤ sta) ∧ (sta = 7 ∨ (0 < tag' ↔ 2 ≤ sta)) ∧ (3 ≤ sta ∨ m + m' = 0) by omega), decide_eq_false s5]; rfl : v = false)
                    clear HE
                    try have dt1 := decide_eq_true t1
                    try have dt2 := decide_eq_true t2
                    try have ds1 := decide_eq_true s1
                    try have ds2 := decide_eq_true s2
                    try have ds3 := decide_eq_true s3
                    try have ds5 := decide_eq_true s5
                    try have dhmm := decide_eq_true hmm
                    try have dt1 := decide_eq_false t1
                    try have dt2 := decide_eq_false t2
                    try have ds1 := decide_eq_false s1
                    try have ds2 := decide_eq_false s2
                    try have ds3 := decide_eq_false s3
                    try have ds5 := decide_eq_false s5
                    try have dhmm := decide_eq_false hmm
                    go_wp2_with fail
                    go_ret
                    exact ⟨ret_bool (by first | exact HR.out.symm | (rw [HR.out]; first | exact decide_eq_true (by omega) | exact decide_eq_false (by omega))), B2.out⟩
        · skip
          have HR := Lib.hid (by rw [HE.out, decide_eq_false (show ¬ (1 ≤ fr ∧ fr ≤ 65535 ∧ 1 ≤ to' ∧ to' ≤ 65535 ∧ ¬ fr = to' ∧ 0 ≤ sta ∧ sta ≤ 7 ∧ (0 < tag ↔ 1 ≤ sta) ∧ (sta = 7 ∨ (0 < tag' ↔ 2 ≤ sta)) ∧ (3 ≤ sta ∨ m + m' = 0)) by omega)]; simp : v = false)
          clear HE
          try have dt1 := decide_eq_true t1
          try have dt2 := decide_eq_true t2
          try have ds1 := decide_eq_true s1
          try have ds2 := decide_eq_true s2
          try have ds3 := decide_eq_true s3
          try have ds5 := decide_eq_true s5
          try have dhmm := decide_eq_true hmm
          try have dt1 := decide_eq_false t1
          try have dt2 := decide_eq_false t2
          try have ds1 := decide_eq_false s1
          try have ds2 := decide_eq_false s2
          try have ds3 := decide_eq_false s3
          try have ds5 := decide_eq_false s5
          try have dhmm := decide_eq_false hmm
          go_wp2_with fail
          go_ret
          exact ⟨ret_bool (by first | exact HR.out.symm | (rw [HR.out]; first | exact decide_eq_true (by omega) | exact decide_eq_false (by omega))), B2.out⟩
      · by_cases t1 : 0 < tag
        · skip
          have HR := Lib.hid (by rw [HE.out, decide_eq_false (show ¬ (1 ≤ fr ∧ fr ≤ 65535 ∧ 1 ≤ to' ∧ to' ≤ 65535 ∧ ¬ fr = to' ∧ 0 ≤ sta ∧ sta ≤ 7 ∧ (0 < tag ↔ 1 ≤ sta) ∧ (sta = 7 ∨ (0 < tag' ↔ 2 ≤ sta)) ∧ (3 ≤ sta ∨ m + m' = 0)) by omega)]; simp : v = false)
          clear HE
          try have dt1 := decide_eq_true t1
          try have dt2 := decide_eq_true t2
          try have ds1 := decide_eq_true s1
          try have ds2 := decide_eq_true s2
          try have ds3 := decide_eq_true s3
          try have ds5 := decide_eq_true s5
          try have dhmm := decide_eq_true hmm
          try have dt1 := decide_eq_false t1
          try have dt2 := decide_eq_false t2
          try have ds1 := decide_eq_false s1
          try have ds2 := decide_eq_false s2
          try have ds3 := decide_eq_false s3
          try have ds5 := decide_eq_false s5
          try have dhmm := decide_eq_false hmm
          go_wp2_with fail
          go_ret
          exact ⟨ret_bool (by first | exact HR.out.symm | (rw [HR.out]; first | exact decide_eq_true (by omega) | exact decide_eq_false (by omega))), B2.out⟩
        · have e7 : (sta != 7) = true := by simp; omega
          have s2 : ¬ 2 ≤ sta := by omega
          by_cases t2 : 0 < tag'
          · skip
            have HR := Lib.hid (by rw [HE.out, decide_eq_false (show ¬ (1 ≤ fr ∧ fr ≤ 65535 ∧ 1 ≤ to' ∧ to' ≤ 65535 ∧ ¬ fr = to' ∧ 0 ≤ sta ∧ sta ≤ 7 ∧ (0 < tag ↔ 1 ≤ sta) ∧ (sta = 7 ∨ (0 < tag' ↔ 2 ≤ sta)) ∧ (3 ≤ sta ∨ m + m' = 0)) by omega)]; simp : v = false)
            clear HE
            try have dt1 := decide_eq_true t1
            try have dt2 := decide_eq_true t2
            try have ds1 := decide_eq_true s1
            try have ds2 := decide_eq_true s2
            try have ds3 := decide_eq_true s3
            try have ds5 := decide_eq_true s5
            try have dhmm := decide_eq_true hmm
            try have dt1 := decide_eq_false t1
            try have dt2 := decide_eq_false t2
            try have ds1 := decide_eq_false s1
            try have ds2 := decide_eq_false s2
            try have ds3 := decide_eq_false s3
            try have ds5 := decide_eq_false s5
            try have dhmm := decide_eq_false hmm
            go_wp2_with fail
            go_ret
            exact ⟨ret_bool (by first | exact HR.out.symm | (rw [HR.out]; first | exact decide_eq_true (by omega) | exact decide_eq_false (by omega))), B2.out⟩
          · skip
            have s3 : sta < 3 := by omega
            by_cases hmm : (0 : Int) < (m : Int) + (m' : Int)
            · skip
              have HR := Lib.hid (by rw [HE.out, decide_eq_false (show ¬ (1 ≤ fr ∧ fr ≤ 65535 ∧ 1 ≤ to' ∧ to' ≤ 65535 ∧ ¬ fr = to' ∧ 0 ≤ sta ∧ sta ≤ 7 ∧ (0 < tag ↔ 1 ≤ sta) ∧ (sta = 7 ∨ (0 < tag' ↔ 2 ≤ sta)) ∧ (3 ≤ sta ∨ m + m' = 0)) by omega)]; simp : v = false)
              clear HE
              try have dt1 := decide_eq_true t1
              try have dt2 := decide_eq_true t2
              try have ds1 := decide_eq_true s1
              try have ds2 := decide_eq_true s2
              try have ds3 := decide_eq_true s3
              try have ds5 := decide_eq_true s5
              try have dhmm := decide_eq_true hmm
              try have dt1 := decide_eq_false t1
              try have dt2 := decide_eq_false t2
              try have ds1 := decide_eq_false s1
              try have ds2 := decide_eq_false s2
              try have ds3 := decide_eq_false s3
              try have ds5 := decide_eq_false s5
              try have dhmm := decide_eq_false hmm
              go_wp2_with fail
              go_ret
              exact ⟨ret_bool (by first | exact HR.out.symm | (rw [HR.out]; first | exact decide_eq_true (by omega) | exact decide_eq_false (by omega))), B2.out⟩
            · skip
              cases by' with
              | false =>
                have HR := Lib.hid (by rw [HE.out, decide_eq_true (show 1 ≤ fr ∧ fr ≤ 65535 ∧ 1 ≤ to' ∧ to' ≤ 65535 ∧ ¬ fr = to' ∧ 0 ≤ sta ∧ sta ≤ 7 ∧ (0 < tag ↔ 1 ≤ sta) ∧ (sta = 7 ∨ (0 < tag' ↔ 2 ≤ sta)) ∧ (3 ≤ sta ∨ m + m' = 0) by omega)]; rfl : v = true)
                clear HE
                try have dt1 := decide_eq_true t1
                try have dt2 := decide_eq_true t2
                try have ds1 := decide_eq_true s1
                try have ds2 := decide_eq_true s2
                try have ds3 := decide_eq_true s3
                try have ds5 := decide_eq_true s5
                try have dhmm := decide_eq_true hmm
                try have dt1 := decide_eq_false t1
                try have dt2 := decide_eq_false t2
                try have ds1 := decide_eq_false s1
                try have ds2 := decide_eq_false s2
                try have ds3 := decide_eq_false s3
                try have ds5 := decide_eq_false s5
                try have dhmm := decide_eq_false hmm
                go_wp2_with fail
                go_ret
                exact ⟨ret_bool (by first | exact HR.out.symm | (rw [HR.out]; first | exact decide_eq_true (by omega) | exact decide_eq_false (by omega))), B2.out⟩
              | true =>
                have s5 : ¬ 5 ≤ sta := by omega
                have HR := Lib.hid (by rw [HE.out, decide_eq_true (show 1 ≤ fr ∧ fr ≤ 65535 ∧ 1 ≤ to' ∧ to' ≤ 65535 ∧ ¬ fr = to' ∧ 0 ≤ sta ∧ sta ≤ 7 ∧ (0 < tag ↔ 1 ≤ sta) ∧ (sta = 7 ∨ (0 < tag' ↔ 2 ≤ sta)) ∧ (3 ≤ sta ∨ m + m' = 0) by omega), decide_eq_false s5]; rfl : v = false)
                clear HE
                try have dt1 := decide_eq_true t1
                try have dt2 := decide_eq_true t2
                try have ds1 := decide_eq_true s1
                try have ds2 := decide_eq_true s2
                try have ds3 := decide_eq_true s3
                try have ds5 := decide_eq_true s5
                try have dhmm := decide_eq_true hmm
                try have dt1 := decide_eq_false t1
                try have dt2 := decide_eq_false t2
                try have ds1 := decide_eq_false s1
                try have ds2 := decide_eq_false s2
                try have ds3 := decide_eq_false s3
                try have ds5 := decide_eq_false s5
                try have dhmm := decide_eq_false hmm
                go_wp2_with fail
                go_ret
                exact ⟨ret_bool (by first | exact HR.out.symm | (rw [HR.out]; first | exact decide_eq_true (by omega) | exact decide_eq_false (by omega))), B2.out⟩
set_option maxHeartbeats 6400000 in
set_option maxRecDepth 100000 in
theorem sassoc_valid (fr to' sta : Int) (by' : Bool) (tag st fi ac : Int) (A : Option Addr) (m c : Nat) (ps : List Dat) (tag' st' fi' ac' : Int) (A' : Option Addr) (m' c' : Nat) (ps' : List Dat) {va vb v : Bool} (hva : sideB tag st fi ac ps = va) (hvb : sideB tag' st' fi' ac' ps' = vb) (hv : assocB va vb by' fr to' sta tag tag' m m' = v) (w : World)
    (hp : Sl w w.heap.size A (dats ps)) (hm : ps.length = m) (hmd : m ≤ c) (hd2 : c ≤ 9223372036854775807) (ht : Dats ps) (hp' : Sl w w.heap.size A' (dats ps')) (hm' : ps'.length = m') (hmd' : m' ≤ c') (hd2' : c' ≤ 9223372036854775807) (ht' : Dats ps') :
    Calls Try.prog 41 #[.agg #[.int .i64 fr, .int .i64 to', .int .i64 sta, .bool by', .int .i64 tag, .int .i64 st, .int .i64 fi, .slice A m c, .int .i64 ac, .int .i64 tag', .int .i64 st', .int .i64 fi', .slice A' m' c', .int .i64 ac']] w fun e w' => e = .returned (.bool v) ∧ Below w.heap.size w w' := by
  have HP := Lib.hid hp; have HM := Lib.hid hm; have HT := Lib.hid ht; have HP' := Lib.hid hp'; have HM' := Lib.hid hm'; have HT' := Lib.hid ht'; have HVA := Lib.hid hva; have HVB := Lib.hid hvb; have HE := Lib.hid hv.symm; clear hp hm ht hp' hm' ht' hva hvb hv
  unfold assocB at HE
  by_cases hb : inB fr 1 65535 = false
  · have hc := inB_false hb
    have HR := Lib.hid (by rw [HE.out, decide_eq_false (show ¬ (1 ≤ fr ∧ fr ≤ 65535 ∧ 1 ≤ to' ∧ to' ≤ 65535 ∧ ¬ fr = to' ∧ 0 ≤ sta ∧ sta ≤ 7 ∧ (0 < tag ↔ 1 ≤ sta) ∧ (sta = 7 ∨ (0 < tag' ↔ 2 ≤ sta)) ∧ (3 ≤ sta ∨ m + m' = 0)) by omega)]; simp : v = false)
    clear HE
    go_enter Try.func41, Try.ntmps41
    go_wp2_with (first | (go_at_call 50; refine (in_any _ _ _ _).mono ?_; rintro e w' ⟨rfl, rfl⟩) | (go_at_call 75; refine (sopen_any _ _).mono ?_; rintro e w' ⟨rfl, rfl⟩))
    go_ret
    exact ⟨ret_bool HR.out.symm, by go_grown⟩
  have h0 : inB fr 1 65535 = true := by simpa using hb
  have i0 := inB_true h0
  clear hb
  by_cases hb : inB to' 1 65535 = false
  · have hc := inB_false hb
    have HR := Lib.hid (by rw [HE.out, decide_eq_false (show ¬ (1 ≤ fr ∧ fr ≤ 65535 ∧ 1 ≤ to' ∧ to' ≤ 65535 ∧ ¬ fr = to' ∧ 0 ≤ sta ∧ sta ≤ 7 ∧ (0 < tag ↔ 1 ≤ sta) ∧ (sta = 7 ∨ (0 < tag' ↔ 2 ≤ sta)) ∧ (3 ≤ sta ∨ m + m' = 0)) by omega)]; simp : v = false)
    clear HE
    go_enter Try.func41, Try.ntmps41
    go_wp2_with (first | (go_at_call 50; refine (in_any _ _ _ _).mono ?_; rintro e w' ⟨rfl, rfl⟩) | (go_at_call 75; refine (sopen_any _ _).mono ?_; rintro e w' ⟨rfl, rfl⟩))
    go_ret
    exact ⟨ret_bool HR.out.symm, by go_grown⟩
  have h1 : inB to' 1 65535 = true := by simpa using hb
  have i1 := inB_true h1
  clear hb
  by_cases hb : fr = to'
  · subst hb
    have HR := Lib.hid (by rw [HE.out, decide_eq_false (show ¬ (1 ≤ fr ∧ fr ≤ 65535 ∧ 1 ≤ fr ∧ fr ≤ 65535 ∧ ¬ fr = fr ∧ 0 ≤ sta ∧ sta ≤ 7 ∧ (0 < tag ↔ 1 ≤ sta) ∧ (sta = 7 ∨ (0 < tag' ↔ 2 ≤ sta)) ∧ (3 ≤ sta ∨ m + m' = 0)) by omega)]; simp : v = false)
    clear HE
    go_enter Try.func41, Try.ntmps41
    go_wp2_with (first | (go_at_call 50; refine (in_any _ _ _ _).mono ?_; rintro e w' ⟨rfl, rfl⟩) | (go_at_call 75; refine (sopen_any _ _).mono ?_; rintro e w' ⟨rfl, rfl⟩))
    go_ret
    exact ⟨ret_bool HR.out.symm, by go_grown⟩
  have en : (fr == to') = false := by simpa using hb
  by_cases hc : inB sta 0 7 = false
  · have hd := inB_false hc
    have HR := Lib.hid (by rw [HE.out, decide_eq_false (show ¬ (1 ≤ fr ∧ fr ≤ 65535 ∧ 1 ≤ to' ∧ to' ≤ 65535 ∧ ¬ fr = to' ∧ 0 ≤ sta ∧ sta ≤ 7 ∧ (0 < tag ↔ 1 ≤ sta) ∧ (sta = 7 ∨ (0 < tag' ↔ 2 ≤ sta)) ∧ (3 ≤ sta ∨ m + m' = 0)) by omega)]; simp : v = false)
    clear HE
    go_enter Try.func41, Try.ntmps41
    go_wp2_with (first | (go_at_call 50; refine (in_any _ _ _ _).mono ?_; rintro e w' ⟨rfl, rfl⟩) | (go_at_call 75; refine (sopen_any _ _).mono ?_; rintro e w' ⟨rfl, rfl⟩))
    go_ret
    exact ⟨ret_bool HR.out.symm, by go_grown⟩
  have h5 : inB sta 0 7 = true := by simpa using hc
  have i5 := inB_true h5
  clear hc
  go_enter Try.func41, Try.ntmps41
  go_wp2_with (first | (go_at_call 50; refine (in_any _ _ _ _).mono ?_; rintro e w' ⟨rfl, rfl⟩) | (go_at_call 75; refine (sopen_any _ _).mono ?_; rintro e w' ⟨rfl, rfl⟩))
  refine (sside_valid _ _ _ _ _ _ _ ps HVA.out _ ((HP.out.alloc (Nat.le_refl _) _).more (by simp)) HM.out hmd hd2 HT.out).mono ?_
  rintro e w1 ⟨rfl, b1'⟩
  obtain ⟨q1, z1, b1⟩ := boxed b1'
  have X1 := Lib.hid q1
  have B1 := Lib.hid b1
  clear b1' q1 b1
  have x0 : w1.cell? ⟨w.heap.size, 0, none⟩ = some (.int .i64 fr) := X1.out.get 0 rfl
  have x1 : w1.cell? ⟨w.heap.size, 1, none⟩ = some (.int .i64 to') := X1.out.get 1 rfl
  have x2 : w1.cell? ⟨w.heap.size, 2, none⟩ = some (.int .i64 sta) := X1.out.get 2 rfl
  have x3 : w1.cell? ⟨w.heap.size, 3, none⟩ = some (.bool by') := X1.out.get 3 rfl
  have x4 : w1.cell? ⟨w.heap.size, 4, none⟩ = some (.int .i64 tag) := X1.out.get 4 rfl
  have x5 : w1.cell? ⟨w.heap.size, 5, none⟩ = some (.int .i64 st) := X1.out.get 5 rfl
  have x6 : w1.cell? ⟨w.heap.size, 6, none⟩ = some (.int .i64 fi) := X1.out.get 6 rfl
  have x7 : w1.cell? ⟨w.heap.size, 7, none⟩ = some (.slice A m c) := X1.out.get 7 rfl
  have x8 : w1.cell? ⟨w.heap.size, 8, none⟩ = some (.int .i64 ac) := X1.out.get 8 rfl
  have x9 : w1.cell? ⟨w.heap.size, 9, none⟩ = some (.int .i64 tag') := X1.out.get 9 rfl
  have x10 : w1.cell? ⟨w.heap.size, 10, none⟩ = some (.int .i64 st') := X1.out.get 10 rfl
  have x11 : w1.cell? ⟨w.heap.size, 11, none⟩ = some (.int .i64 fi') := X1.out.get 11 rfl
  have x12 : w1.cell? ⟨w.heap.size, 12, none⟩ = some (.slice A' m' c') := X1.out.get 12 rfl
  have x13 : w1.cell? ⟨w.heap.size, 13, none⟩ = some (.int .i64 ac') := X1.out.get 13 rfl
  cases va with
  | false =>
    have HR := Lib.hid (by rw [HE.out]; simp : v = false)
    clear HE
    go_wp2_with (first | (go_at_call 50; refine (in_any _ _ _ _).mono ?_; rintro e w' ⟨rfl, rfl⟩) | (go_at_call 75; refine (sopen_any _ _).mono ?_; rintro e w' ⟨rfl, rfl⟩))
    go_ret
    exact ⟨ret_bool HR.out.symm, B1.out⟩
  | true =>
    go_wp2_with (first | (go_at_call 50; refine (in_any _ _ _ _).mono ?_; rintro e w' ⟨rfl, rfl⟩) | (go_at_call 75; refine (sopen_any _ _).mono ?_; rintro e w' ⟨rfl, rfl⟩))
    refine (sside_valid _ _ _ _ _ _ _ ps' HVB.out _ ((HP'.out.below B1.out (Nat.le_refl _)).more B1.out.size) HM'.out hmd' hd2' HT'.out).mono ?_
    rintro e w2 ⟨rfl, b2⟩
    have X2 := Lib.hid (X1.out.below b2 X1.out.lt)
    have B2 := Lib.hid (bstep B1.out b2 B1.out.size)
    clear b2 x0 x1 x2 x3 x4 x5 x6 x7 x8 x9 x10 x11 x12 x13
    clear X1 B1 z1
    have x0 : w2.cell? ⟨w.heap.size, 0, none⟩ = some (.int .i64 fr) := X2.out.get 0 rfl
    have x1 : w2.cell? ⟨w.heap.size, 1, none⟩ = some (.int .i64 to') := X2.out.get 1 rfl
    have x2 : w2.cell? ⟨w.heap.size, 2, none⟩ = some (.int .i64 sta) := X2.out.get 2 rfl
    have x3 : w2.cell? ⟨w.heap.size, 3, none⟩ = some (.bool by') := X2.out.get 3 rfl
    have x4 : w2.cell? ⟨w.heap.size, 4, none⟩ = some (.int .i64 tag) := X2.out.get 4 rfl
    have x5 : w2.cell? ⟨w.heap.size, 5, none⟩ = some (.int .i64 st) := X2.out.get 5 rfl
    have x6 : w2.cell? ⟨w.heap.size, 6, none⟩ = some (.int .i64 fi) := X2.out.get 6 rfl
    have x7 : w2.cell? ⟨w.heap.size, 7, none⟩ = some (.slice A m c) := X2.out.get 7 rfl
    have x8 : w2.cell? ⟨w.heap.size, 8, none⟩ = some (.int .i64 ac) := X2.out.get 8 rfl
    have x9 : w2.cell? ⟨w.heap.size, 9, none⟩ = some (.int .i64 tag') := X2.out.get 9 rfl
    have x10 : w2.cell? ⟨w.heap.size, 10, none⟩ = some (.int .i64 st') := X2.out.get 10 rfl
    have x11 : w2.cell? ⟨w.heap.size, 11, none⟩ = some (.int .i64 fi') := X2.out.get 11 rfl
    have x12 : w2.cell? ⟨w.heap.size, 12, none⟩ = some (.slice A' m' c') := X2.out.get 12 rfl
    have x13 : w2.cell? ⟨w.heap.size, 13, none⟩ = some (.int .i64 ac') := X2.out.get 13 rfl
    cases vb with
    | false =>
      have HR := Lib.hid (by rw [HE.out]; simp : v = false)
      clear HE
      go_wp2_with (first | (go_at_call 50; refine (in_any _ _ _ _).mono ?_; rintro e w' ⟨rfl, rfl⟩) | (go_at_call 75; refine (sopen_any _ _).mono ?_; rintro e w' ⟨rfl, rfl⟩))
      go_ret
      exact ⟨ret_bool HR.out.symm, B2.out⟩
    | true =>
      have l1 : m ≤ 12 := HM.out ▸ side_len HVA.out
      have l2 : m' ≤ 12 := HM'.out ▸ side_len HVB.out
      have hsum := IntWalk.i64_in ((m : Int) + (m' : Int)) (by omega)
      clear HVA HVB
      by_cases s1 : 1 ≤ sta
      · by_cases t1 : 0 < tag
        · skip
          by_cases s7 : sta = 7
          · have e7 : (sta != 7) = false := by simpa using s7
            skip
            have s3 : inB sta 3 7 = true := inB_mk (by omega)
            cases by' with
            | false =>
              have HR := Lib.hid (by rw [HE.out, decide_eq_true (show 1 ≤ fr ∧ fr ≤ 65535 ∧ 1 ≤ to' ∧ to' ≤ 65535 ∧ ¬ fr = to' ∧ 0 ≤ sta ∧ sta ≤ 7 ∧ (0 < tag ↔ 1 ≤ sta) ∧ (sta = 7 ∨ (0 < tag' ↔ 2 ≤ sta)) ∧ (3 ≤ sta ∨ m + m' = 0) by omega)]; rfl : v = true)
              clear HE
              try have dt1 := decide_eq_true t1
              try have dt2 := decide_eq_true t2
              try have ds1 := decide_eq_true s1
              try have ds2 := decide_eq_true s2
              try have ds3 := decide_eq_true s3
              try have ds5 := decide_eq_true s5
              try have dhmm := decide_eq_true hmm
              try have dt1 := decide_eq_false t1
              try have dt2 := decide_eq_false t2
              try have ds1 := decide_eq_false s1
              try have ds2 := decide_eq_false s2
              try have ds3 := decide_eq_false s3
              try have ds5 := decide_eq_false s5
              try have dhmm := decide_eq_false hmm
              go_wp2_with (first | (go_at_call 50; refine (in_any _ _ _ _).mono ?_; rintro e w' ⟨rfl, rfl⟩) | (go_at_call 75; refine (sopen_any _ _).mono ?_; rintro e w' ⟨rfl, rfl⟩))
              go_ret
              exact ⟨ret_bool (by first | exact HR.out.symm | (rw [HR.out]; first | exact decide_eq_true (by omega) | exact decide_eq_false (by omega))), B2.out⟩
            | true =>
              have s5 : 5 ≤ sta := by omega
              have HR := Lib.hid (by rw [HE.out, decide_eq_true (show 1 ≤ fr ∧ fr ≤ 65535 ∧ 1 ≤ to' ∧ to' ≤ 65535 ∧ ¬ fr = to' ∧ 0 ≤ sta ∧ sta ≤ 7 ∧ (0 < tag ↔ 1 ≤ sta) ∧ (sta = 7 ∨ (0 < tag' ↔ 2 ≤ sta)) ∧ (3 ≤ sta ∨ m + m' = 0) by omega), decide_eq_true s5]; rfl : v = true)
              clear HE
              try have dt1 := decide_eq_true t1
              try have dt2 := decide_eq_true t2
              try have ds1 := decide_eq_true s1
              try have ds2 := decide_eq_true s2
              try have ds3 := decide_eq_true s3
              try have ds5 := decide_eq_true s5
              try have dhmm := decide_eq_true hmm
              try have dt1 := decide_eq_false t1
              try have dt2 := decide_eq_false t2
              try have ds1 := decide_eq_false s1
              try have ds2 := decide_eq_false s2
              try have ds3 := decide_eq_false s3
              try have ds5 := decide_eq_false s5
              try have dhmm := decide_eq_false hmm
              go_wp2_with (first | (go_at_call 50; refine (in_any _ _ _ _).mono ?_; rintro e w' ⟨rfl, rfl⟩) | (go_at_call 75; refine (sopen_any _ _).mono ?_; rintro e w' ⟨rfl, rfl⟩))
              go_ret
              exact ⟨ret_bool (by first | exact HR.out.symm | (rw [HR.out]; first | exact decide_eq_true (by omega) | exact decide_eq_false (by omega))), B2.out⟩
          · have e7 : (sta != 7) = true := by simpa using s7
            by_cases s2 : 2 ≤ sta
            · by_cases t2 : 0 < tag'
              · skip
                by_cases s3' : sta = 2
                · skip
                  have s3 : inB sta 3 7 = false := inB_no (by omega)
                  by_cases hmm : (0 : Int) < (m : Int) + (m' : Int)
                  · skip
                    have HR := Lib.hid (by rw [HE.out, decide_eq_false (show ¬ (1 ≤ fr ∧ fr ≤ 65535 ∧ 1 ≤ to' ∧ to' ≤ 65535 ∧ ¬ fr = to' ∧ 0 ≤ sta ∧ sta ≤ 7 ∧ (0 < tag ↔ 1 ≤ sta) ∧ (sta = 7 ∨ (0 < tag' ↔ 2 ≤ sta)) ∧ (3 ≤ sta ∨ m + m' = 0)) by omega)]; simp : v = false)
                    clear HE
                    try have dt1 := decide_eq_true t1
                    try have dt2 := decide_eq_true t2
                    try have ds1 := decide_eq_true s1
                    try have ds2 := decide_eq_true s2
                    try have ds3 := decide_eq_true s3
                    try have ds5 := decide_eq_true s5
                    try have dhmm := decide_eq_true hmm
                    try have dt1 := decide_eq_false t1
                    try have dt2 := decide_eq_false t2
                    try have ds1 := decide_eq_false s1
                    try have ds2 := decide_eq_false s2
                    try have ds3 := decide_eq_false s3
                    try have ds5 := decide_eq_false s5
                    try have dhmm := decide_eq_false hmm
                    go_wp2_with (first | (go_at_call 50; refine (in_any _ _ _ _).mono ?_; rintro e w' ⟨rfl, rfl⟩) | (go_at_call 75; refine (sopen_any _ _).mono ?_; rintro e w' ⟨rfl, rfl⟩))
                    go_ret
                    exact ⟨ret_bool (by first | exact HR.out.symm | (rw [HR.out]; first | exact decide_eq_true (by omega) | exact decide_eq_false (by omega))), B2.out⟩
                  · skip
                    cases by' with
                    | false =>
                      have HR := Lib.hid (by rw [HE.out, decide_eq_true (show 1 ≤ fr ∧ fr ≤ 65535 ∧ 1 ≤ to' ∧ to' ≤ 65535 ∧ ¬ fr = to' ∧ 0 ≤ sta ∧ sta ≤ 7 ∧ (0 < tag ↔ 1 ≤ sta) ∧ (sta = 7 ∨ (0 < tag' ↔ 2 ≤ sta)) ∧ (3 ≤ sta ∨ m + m' = 0) by omega)]; rfl : v = true)
                      clear HE
                      try have dt1 := decide_eq_true t1
                      try have dt2 := decide_eq_true t2
                      try have ds1 := decide_eq_true s1
                      try have ds2 := decide_eq_true s2
                      try have ds3 := decide_eq_true s3
                      try have ds5 := decide_eq_true s5
                      try have dhmm := decide_eq_true hmm
                      try have dt1 := decide_eq_false t1
                      try have dt2 := decide_eq_false t2
                      try have ds1 := decide_eq_false s1
                      try have ds2 := decide_eq_false s2
                      try have ds3 := decide_eq_false s3
                      try have ds5 := decide_eq_false s5
                      try have dhmm := decide_eq_false hmm
                      go_wp2_with (first | (go_at_call 50; refine (in_any _ _ _ _).mono ?_; rintro e w' ⟨rfl, rfl⟩) | (go_at_call 75; refine (sopen_any _ _).mono ?_; rintro e w' ⟨rfl, rfl⟩))
                      go_ret
                      exact ⟨ret_bool (by first | exact HR.out.symm | (rw [HR.out]; first | exact decide_eq_true (by omega) | exact decide_eq_false (by omega))), B2.out⟩
                    | true =>
                      have s5 : ¬ 5 ≤ sta := by omega
                      have HR := Lib.hid (by rw [HE.out, decide_eq_true (show 1 ≤ fr ∧ fr ≤ 65535 ∧ 1 ≤ to' ∧ to' ≤ 65535 ∧ ¬ fr = to' ∧ 0 ≤ sta ∧ sta ≤ 7 ∧ (0 < tag ↔ 1 ≤ sta) ∧ (sta = 7 ∨ (0 < tag' ↔ 2 ≤ sta)) ∧ (3 ≤ sta ∨ m + m' = 0) by omega), decide_eq_false s5]; rfl : v = false)
                      clear HE
                      try have dt1 := decide_eq_true t1
                      try have dt2 := decide_eq_true t2
                      try have ds1 := decide_eq_true s1
                      try have ds2 := decide_eq_true s2
                      try have ds3 := decide_eq_true s3
                      try have ds5 := decide_eq_true s5
                      try have dhmm := decide_eq_true hmm
                      try have dt1 := decide_eq_false t1
                      try have dt2 := decide_eq_false t2
                      try have ds1 := decide_eq_false s1
                      try have ds2 := decide_eq_false s2
                      try have ds3 := decide_eq_false s3
                      try have ds5 := decide_eq_false s5
                      try have dhmm := decide_eq_false hmm
                      go_wp2_with (first | (go_at_call 50; refine (in_any _ _ _ _).mono ?_; rintro e w' ⟨rfl, rfl⟩) | (go_at_call 75; refine (sopen_any _ _).mono ?_; rintro e w' ⟨rfl, rfl⟩))
                      go_ret
                      exact ⟨ret_bool (by first | exact HR.out.symm | (rw [HR.out]; first | exact decide_eq_true (by omega) | exact decide_eq_false (by omega))), B2.out⟩
                · skip
                  have s3 : inB sta 3 7 = true := inB_mk (by omega)
                  cases by' with
                  | false =>
                    have HR := Lib.hid (by rw [HE.out, decide_eq_true (show 1 ≤ fr ∧ fr ≤ 65535 ∧ 1 ≤ to' ∧ to' ≤ 65535 ∧ ¬ fr = to' ∧ 0 ≤ sta ∧ sta ≤ 7 ∧ (0 < tag ↔ 1 ≤ sta) ∧ (sta = 7 ∨ (0 < tag' ↔ 2 ≤ sta)) ∧ (3 ≤ sta ∨ m + m' = 0) by omega)]; rfl : v = true)
                    clear HE
                    try have dt1 := decide_eq_true t1
                    try have dt2 := decide_eq_true t2
                    try have ds1 := decide_eq_true s1
                    try have ds2 := decide_eq_true s2
                    try have ds3 := decide_eq_true s3
                    try have ds5 := decide_eq_true s5
                    try have dhmm := decide_eq_true hmm
                    try have dt1 := decide_eq_false t1
                    try have dt2 := decide_eq_false t2
                    try have ds1 := decide_eq_false s1
                    try have ds2 := decide_eq_false s2
                    try have ds3 := decide_eq_false s3
                    try have ds5 := decide_eq_false s5
                    try have dhmm := decide_eq_false hmm
                    go_wp2_with (first | (go_at_call 50; refine (in_any _ _ _ _).mono ?_; rintro e w' ⟨rfl, rfl⟩) | (go_at_call 75; refine (sopen_any _ _).mono ?_; rintro e w' ⟨rfl, rfl⟩))
                    go_ret
                    exact ⟨ret_bool (by first | exact HR.out.symm | (rw [HR.out]; first | exact decide_eq_true (by omega) | exact decide_eq_false (by omega))), B2.out⟩
                  | true =>
                    by_cases s5 : 5 ≤ sta
                    · skip
                      have HR := Lib.hid (by rw [HE.out, decide_eq_true (show 1 ≤ fr ∧ fr ≤ 65535 ∧ 1 ≤ to' ∧ to' ≤ 65535 ∧ ¬ fr = to' ∧ 0 ≤ sta ∧ sta ≤ 7 ∧ (0 < tag ↔ 1 ≤ sta) ∧ (sta = 7 ∨ (0 < tag' ↔ 2 ≤ sta)) ∧ (3 ≤ sta ∨ m + m' = 0) by omega), decide_eq_true s5]; rfl : v = true)
                      clear HE
                      try have dt1 := decide_eq_true t1
                      try have dt2 := decide_eq_true t2
                      try have ds1 := decide_eq_true s1
                      try have ds2 := decide_eq_true s2
                      try have ds3 := decide_eq_true s3
                      try have ds5 := decide_eq_true s5
                      try have dhmm := decide_eq_true hmm
                      try have dt1 := decide_eq_false t1
                      try have dt2 := decide_eq_false t2
                      try have ds1 := decide_eq_false s1
                      try have ds2 := decide_eq_false s2
                      try have ds3 := decide_eq_false s3
                      try have ds5 := decide_eq_false s5
                      try have dhmm := decide_eq_false hmm
                      go_wp2_with (first | (go_at_call 50; refine (in_any _ _ _ _).mono ?_; rintro e w' ⟨rfl, rfl⟩) | (go_at_call 75; refine (sopen_any _ _).mono ?_; rintro e w' ⟨rfl, rfl⟩))
                      go_ret
                      exact ⟨ret_bool (by first | exact HR.out.symm | (rw [HR.out]; first | exact decide_eq_true (by omega) | exact decide_eq_false (by omega))), B2.out⟩
                    · skip
                      have HR := Lib.hid (by rw [HE.out, decide_eq_true (show 1 ≤ fr ∧ fr ≤ 65535 ∧ 1 ≤ to' ∧ to' ≤ 65535 ∧ ¬ fr = to' ∧ 0 ≤ sta ∧ sta ≤ 7 ∧ (0 < tag ↔ 1 ≤ sta) ∧ (sta = 7 ∨ (0 < tag' ↔ 2 ≤ sta)) ∧ (3 ≤ sta ∨ m + m' = 0) by omega), decide_eq_false s5]; rfl : v = false)
                      clear HE
                      try have dt1 := decide_eq_true t1
                      try have dt2 := decide_eq_true t2
                      try have ds1 := decide_eq_true s1
                      try have ds2 := decide_eq_true s2
                      try have ds3 := decide_eq_true s3
                      try have ds5 := decide_eq_true s5
                      try have dhmm := decide_eq_true hmm
                      try have dt1 := decide_eq_false t1
                      try have dt2 := decide_eq_false t2
                      try have ds1 := decide_eq_false s1
                      try have ds2 := decide_eq_false s2
                      try have ds3 := decide_eq_false s3
                      try have ds5 := decide_eq_false s5
                      try have dhmm := decide_eq_false hmm
                      go_wp2_with (first | (go_at_call 50; refine (in_any _ _ _ _).mono ?_; rintro e w' ⟨rfl, rfl⟩) | (go_at_call 75; refine (sopen_any _ _).mono ?_; rintro e w' ⟨rfl, rfl⟩))
                      go_ret
                      exact ⟨ret_bool (by first | exact HR.out.symm | (rw [HR.out]; first | exact decide_eq_true (by omega) | exact decide_eq_false (by omega))), B2.out⟩
              · skip
                have HR := Lib.hid (by rw [HE.out, decide_eq_false (show ¬ (1 ≤ fr ∧ fr ≤ 65535 ∧ 1 ≤ to' ∧ to' ≤ 65535 ∧ ¬ fr = to' ∧ 0 ≤ sta ∧ sta ≤ 7 ∧ (0 < tag ↔ 1 ≤ sta) ∧ (sta = 7 ∨ (0 < tag' ↔ 2 ≤ sta)) ∧ (3 ≤ sta ∨ m + m' = 0)) by omega)]; simp : v = false)
                clear HE
                try have dt1 := decide_eq_true t1
                try have dt2 := decide_eq_true t2
                try have ds1 := decide_eq_true s1
                try have ds2 := decide_eq_true s2
                try have ds3 := decide_eq_true s3
                try have ds5 := decide_eq_true s5
                try have dhmm := decide_eq_true hmm
                try have dt1 := decide_eq_false t1
                try have dt2 := decide_eq_false t2
                try have ds1 := decide_eq_false s1
                try have ds2 := decide_eq_false s2
                try have ds3 := decide_eq_false s3
                try have ds5 := decide_eq_false s5
                try have dhmm := decide_eq_false hmm
                go_wp2_with (first | (go_at_call 50; refine (in_any _ _ _ _).mono ?_; rintro e w' ⟨rfl, rfl⟩) | (go_at_call 75; refine (sopen_any _ _).mono ?_; rintro e w' ⟨rfl, rfl⟩))
                go_ret
                exact ⟨ret_bool (by first | exact HR.out.symm | (rw [HR.out]; first | exact decide_eq_true (by omega) | exact decide_eq_false (by omega))), B2.out⟩
            · by_cases t2 : 0 < tag'
              · skip
                have HR := Lib.hid (by rw [HE.out, decide_eq_false (show ¬ (1 ≤ fr ∧ fr ≤ 65535 ∧ 1 ≤ to' ∧ to' ≤ 65535 ∧ ¬ fr = to' ∧ 0 ≤ sta ∧ sta ≤ 7 ∧ (0 < tag ↔ 1 ≤ sta) ∧ (sta = 7 ∨ (0 < tag' ↔ 2 ≤ sta)) ∧ (3 ≤ sta ∨ m + m' = 0)) by omega)]; simp : v = false)
                clear HE
                try have dt1 := decide_eq_true t1
                try have dt2 := decide_eq_true t2
                try have ds1 := decide_eq_true s1
                try have ds2 := decide_eq_true s2
                try have ds3 := decide_eq_true s3
                try have ds5 := decide_eq_true s5
                try have dhmm := decide_eq_true hmm
                try have dt1 := decide_eq_false t1
                try have dt2 := decide_eq_false t2
                try have ds1 := decide_eq_false s1
                try have ds2 := decide_eq_false s2
                try have ds3 := decide_eq_false s3
                try have ds5 := decide_eq_false s5
                try have dhmm := decide_eq_false hmm
                go_wp2_with (first | (go_at_call 50; refine (in_any _ _ _ _).mono ?_; rintro e w' ⟨rfl, rfl⟩) | (go_at_call 75; refine (sopen_any _ _).mono ?_; rintro e w' ⟨rfl, rfl⟩))
                go_ret
                exact ⟨ret_bool (by first | exact HR.out.symm | (rw [HR.out]; first | exact decide_eq_true (by omega) | exact decide_eq_false (by omega))), B2.out⟩
              · skip
                have s3 : inB sta 3 7 = false := inB_no (by omega)
                by_cases hmm : (0 : Int) < (m : Int) + (m' : Int)
                · skip
                  have HR := Lib.hid (by rw [HE.out, decide_eq_false (show ¬ (1 ≤ fr ∧ fr ≤ 65535 ∧ 1 ≤ to' ∧ to' ≤ 65535 ∧ ¬ fr = to' ∧ 0 ≤ sta ∧ sta ≤ 7 ∧ (0 < tag ↔ 1 ≤ sta) ∧ (sta = 7 ∨ (0 < tag' ↔ 2 ≤ sta)) ∧ (3 ≤ sta ∨ m + m' = 0)) by omega)]; simp : v = false)
                  clear HE
                  try have dt1 := decide_eq_true t1
                  try have dt2 := decide_eq_true t2
                  try have ds1 := decide_eq_true s1
                  try have ds2 := decide_eq_true s2
                  try have ds3 := decide_eq_true s3
                  try have ds5 := decide_eq_true s5
                  try have dhmm := decide_eq_true hmm
                  try have dt1 := decide_eq_false t1
                  try have dt2 := decide_eq_false t2
                  try have ds1 := decide_eq_false s1
                  try have ds2 := decide_eq_false s2
                  try have ds3 := decide_eq_false s3
                  try have ds5 := decide_eq_false s5
                  try have dhmm := decide_eq_false hmm
                  go_wp2_with (first | (go_at_call 50; refine (in_any _ _ _ _).mono ?_; rintro e w' ⟨rfl, rfl⟩) | (go_at_call 75; refine (sopen_any _ _).mono ?_; rintro e w' ⟨rfl, rfl⟩))
                  go_ret
                  exact ⟨ret_bool (by first | exact HR.out.symm | (rw [HR.out]; first | exact decide_eq_true (by omega) | exact decide_eq_false (by omega))), B2.out⟩
                · skip
                  cases by' with
                  | false =>
                    have HR := Lib.hid (by rw [HE.out, decide_eq_true (show 1 ≤ fr ∧ fr ≤ 65535 ∧ 1 ≤ to' ∧ to' ≤ 65535 ∧ ¬ fr = to' ∧ 0 ≤ sta ∧ sta ≤ 7 ∧ (0 < tag ↔ 1 ≤ sta) ∧ (sta = 7 ∨ (0 < tag' ↔ 2 ≤ sta)) ∧ (3 ≤ sta ∨ m + m' = 0) by omega)]; rfl : v = true)
                    clear HE
                    try have dt1 := decide_eq_true t1
                    try have dt2 := decide_eq_true t2
                    try have ds1 := decide_eq_true s1
                    try have ds2 := decide_eq_true s2
                    try have ds3 := decide_eq_true s3
                    try have ds5 := decide_eq_true s5
                    try have dhmm := decide_eq_true hmm
                    try have dt1 := decide_eq_false t1
                    try have dt2 := decide_eq_false t2
                    try have ds1 := decide_eq_false s1
                    try have ds2 := decide_eq_false s2
                    try have ds3 := decide_eq_false s3
                    try have ds5 := decide_eq_false s5
                    try have dhmm := decide_eq_false hmm
                    go_wp2_with (first | (go_at_call 50; refine (in_any _ _ _ _).mono ?_; rintro e w' ⟨rfl, rfl⟩) | (go_at_call 75; refine (sopen_any _ _).mono ?_; rintro e w' ⟨rfl, rfl⟩))
                    go_ret
                    exact ⟨ret_bool (by first | exact HR.out.symm | (rw [HR.out]; first | exact decide_eq_true (by omega) | exact decide_eq_false (by omega))), B2.out⟩
                  | true =>
                    have s5 : ¬ 5 ≤ sta := by omega
                    have HR := Lib.hid (by rw [HE.out, decide_eq_true (show 1 ≤ fr ∧ fr ≤ 65535 ∧ 1 ≤ to' ∧ to' ≤ 65535 ∧ ¬ fr = to' ∧ 0 ≤ sta ∧ sta ≤ 7 ∧ (0 < tag ↔ 1 ≤ sta) ∧ (sta = 7 ∨ (0 < tag' ↔ 2 ≤ sta)) ∧ (3 ≤ sta ∨ m + m' = 0) by omega), decide_eq_false s5]; rfl : v = false)
                    clear HE
                    try have dt1 := decide_eq_true t1
                    try have dt2 := decide_eq_true t2
                    try have ds1 := decide_eq_true s1
                    try have ds2 := decide_eq_true s2
                    try have ds3 := decide_eq_true s3
                    try have ds5 := decide_eq_true s5
                    try have dhmm := decide_eq_true hmm
                    try have dt1 := decide_eq_false t1
                    try have dt2 := decide_eq_false t2
                    try have ds1 := decide_eq_false s1
                    try have ds2 := decide_eq_false s2
                    try have ds3 := decide_eq_false s3
                    try have ds5 := decide_eq_false s5
                    try have dhmm := decide_eq_false hmm
                    go_wp2_with (first | (go_at_call 50; refine (in_any _ _ _ _).mono ?_; rintro e w' ⟨rfl, rfl⟩) | (go_at_call 75; refine (sopen_any _ _).mono ?_; rintro e w' ⟨rfl, rfl⟩))
                    go_ret
                    exact ⟨ret_bool (by first | exact HR.out.symm | (rw [HR.out]; first | exact decide_eq_true (by omega) | exact decide_eq_false (by omega))), B2.out⟩
        · skip
          have HR := Lib.hid (by rw [HE.out, decide_eq_false (show ¬ (1 ≤ fr ∧ fr ≤ 65535 ∧ 1 ≤ to' ∧ to' ≤ 65535 ∧ ¬ fr = to' ∧ 0 ≤ sta ∧ sta ≤ 7 ∧ (0 < tag ↔ 1 ≤ sta) ∧ (sta = 7 ∨ (0 < tag' ↔ 2 ≤ sta)) ∧ (3 ≤ sta ∨ m + m' = 0)) by omega)]; simp : v = false)
          clear HE
          try have dt1 := decide_eq_true t1
          try have dt2 := decide_eq_true t2
          try have ds1 := decide_eq_true s1
          try have ds2 := decide_eq_true s2
          try have ds3 := decide_eq_true s3
          try have ds5 := decide_eq_true s5
          try have dhmm := decide_eq_true hmm
          try have dt1 := decide_eq_false t1
          try have dt2 := decide_eq_false t2
          try have ds1 := decide_eq_false s1
          try have ds2 := decide_eq_false s2
          try have ds3 := decide_eq_false s3
          try have ds5 := decide_eq_false s5
          try have dhmm := decide_eq_false hmm
          go_wp2_with (first | (go_at_call 50; refine (in_any _ _ _ _).mono ?_; rintro e w' ⟨rfl, rfl⟩) | (go_at_call 75; refine (sopen_any _ _).mono ?_; rintro e w' ⟨rfl, rfl⟩))
          go_ret
          exact ⟨ret_bool (by first | exact HR.out.symm | (rw [HR.out]; first | exact decide_eq_true (by omega) | exact decide_eq_false (by omega))), B2.out⟩
      · by_cases t1 : 0 < tag
        · skip
          have HR := Lib.hid (by rw [HE.out, decide_eq_false (show ¬ (1 ≤ fr ∧ fr ≤ 65535 ∧ 1 ≤ to' ∧ to' ≤ 65535 ∧ ¬ fr = to' ∧ 0 ≤ sta ∧ sta ≤ 7 ∧ (0 < tag ↔ 1 ≤ sta) ∧ (sta = 7 ∨ (0 < tag' ↔ 2 ≤ sta)) ∧ (3 ≤ sta ∨ m + m' = 0)) by omega)]; simp : v = false)
          clear HE
          try have dt1 := decide_eq_true t1
          try have dt2 := decide_eq_true t2
          try have ds1 := decide_eq_true s1
          try have ds2 := decide_eq_true s2
          try have ds3 := decide_eq_true s3
          try have ds5 := decide_eq_true s5
          try have dhmm := decide_eq_true hmm
          try have dt1 := decide_eq_false t1
          try have dt2 := decide_eq_false t2
          try have ds1 := decide_eq_false s1
          try have ds2 := decide_eq_false s2
          try have ds3 := decide_eq_false s3
          try have ds5 := decide_eq_false s5
          try have dhmm := decide_eq_false hmm
          go_wp2_with (first | (go_at_call 50; refine (in_any _ _ _ _).mono ?_; rintro e w' ⟨rfl, rfl⟩) | (go_at_call 75; refine (sopen_any _ _).mono ?_; rintro e w' ⟨rfl, rfl⟩))
          go_ret
          exact ⟨ret_bool (by first | exact HR.out.symm | (rw [HR.out]; first | exact decide_eq_true (by omega) | exact decide_eq_false (by omega))), B2.out⟩
        · have e7 : (sta != 7) = true := by simp; omega
          have s2 : ¬ 2 ≤ sta := by omega
          by_cases t2 : 0 < tag'
          · skip
            have HR := Lib.hid (by rw [HE.out, decide_eq_false (show ¬ (1 ≤ fr ∧ fr ≤ 65535 ∧ 1 ≤ to' ∧ to' ≤ 65535 ∧ ¬ fr = to' ∧ 0 ≤ sta ∧ sta ≤ 7 ∧ (0 < tag ↔ 1 ≤ sta) ∧ (sta = 7 ∨ (0 < tag' ↔ 2 ≤ sta)) ∧ (3 ≤ sta ∨ m + m' = 0)) by omega)]; simp : v = false)
            clear HE
            try have dt1 := decide_eq_true t1
            try have dt2 := decide_eq_true t2
            try have ds1 := decide_eq_true s1
            try have ds2 := decide_eq_true s2
            try have ds3 := decide_eq_true s3
            try have ds5 := decide_eq_true s5
            try have dhmm := decide_eq_true hmm
            try have dt1 := decide_eq_false t1
            try have dt2 := decide_eq_false t2
            try have ds1 := decide_eq_false s1
            try have ds2 := decide_eq_false s2
            try have ds3 := decide_eq_false s3
            try have ds5 := decide_eq_false s5
            try have dhmm := decide_eq_false hmm
            go_wp2_with (first | (go_at_call 50; refine (in_any _ _ _ _).mono ?_; rintro e w' ⟨rfl, rfl⟩) | (go_at_call 75; refine (sopen_any _ _).mono ?_; rintro e w' ⟨rfl, rfl⟩))
            go_ret
            exact ⟨ret_bool (by first | exact HR.out.symm | (rw [HR.out]; first | exact decide_eq_true (by omega) | exact decide_eq_false (by omega))), B2.out⟩
          · skip
            have s3 : inB sta 3 7 = false := inB_no (by omega)
            by_cases hmm : (0 : Int) < (m : Int) + (m' : Int)
            · skip
              have HR := Lib.hid (by rw [HE.out, decide_eq_false (show ¬ (1 ≤ fr ∧ fr ≤ 65535 ∧ 1 ≤ to' ∧ to' ≤ 65535 ∧ ¬ fr = to' ∧ 0 ≤ sta ∧ sta ≤ 7 ∧ (0 < tag ↔ 1 ≤ sta) ∧ (sta = 7 ∨ (0 < tag' ↔ 2 ≤ sta)) ∧ (3 ≤ sta ∨ m + m' = 0)) by omega)]; simp : v = false)
              clear HE
              try have dt1 := decide_eq_true t1
              try have dt2 := decide_eq_true t2
              try have ds1 := decide_eq_true s1
              try have ds2 := decide_eq_true s2
              try have ds3 := decide_eq_true s3
              try have ds5 := decide_eq_true s5
              try have dhmm := decide_eq_true hmm
              try have dt1 := decide_eq_false t1
              try have dt2 := decide_eq_false t2
              try have ds1 := decide_eq_false s1
              try have ds2 := decide_eq_false s2
              try have ds3 := decide_eq_false s3
              try have ds5 := decide_eq_false s5
              try have dhmm := decide_eq_false hmm
              go_wp2_with (first | (go_at_call 50; refine (in_any _ _ _ _).mono ?_; rintro e w' ⟨rfl, rfl⟩) | (go_at_call 75; refine (sopen_any _ _).mono ?_; rintro e w' ⟨rfl, rfl⟩))
              go_ret
              exact ⟨ret_bool (by first | exact HR.out.symm | (rw [HR.out]; first | exact decide_eq_true (by omega) | exact decide_eq_false (by omega))), B2.out⟩
            · skip
              cases by' with
              | false =>
                have HR := Lib.hid (by rw [HE.out, decide_eq_true (show 1 ≤ fr ∧ fr ≤ 65535 ∧ 1 ≤ to' ∧ to' ≤ 65535 ∧ ¬ fr = to' ∧ 0 ≤ sta ∧ sta ≤ 7 ∧ (0 < tag ↔ 1 ≤ sta) ∧ (sta = 7 ∨ (0 < tag' ↔ 2 ≤ sta)) ∧ (3 ≤ sta ∨ m + m' = 0) by omega)]; rfl : v = true)
                clear HE
                try have dt1 := decide_eq_true t1
                try have dt2 := decide_eq_true t2
                try have ds1 := decide_eq_true s1
                try have ds2 := decide_eq_true s2
                try have ds3 := decide_eq_true s3
                try have ds5 := decide_eq_true s5
                try have dhmm := decide_eq_true hmm
                try have dt1 := decide_eq_false t1
                try have dt2 := decide_eq_false t2
                try have ds1 := decide_eq_false s1
                try have ds2 := decide_eq_false s2
                try have ds3 := decide_eq_false s3
                try have ds5 := decide_eq_false s5
                try have dhmm := decide_eq_false hmm
                go_wp2_with (first | (go_at_call 50; refine (in_any _ _ _ _).mono ?_; rintro e w' ⟨rfl, rfl⟩) | (go_at_call 75; refine (sopen_any _ _).mono ?_; rintro e w' ⟨rfl, rfl⟩))
                go_ret
                exact ⟨ret_bool (by first | exact HR.out.symm | (rw [HR.out]; first | exact decide_eq_true (by omega) | exact decide_eq_false (by omega))), B2.out⟩
              | true =>
                have s5 : ¬ 5 ≤ sta := by omega
                have HR := Lib.hid (by rw [HE.out, decide_eq_true (show 1 ≤ fr ∧ fr ≤ 65535 ∧ 1 ≤ to' ∧ to' ≤ 65535 ∧ ¬ fr = to' ∧ 0 ≤ sta ∧ sta ≤ 7 ∧ (0 < tag ↔ 1 ≤ sta) ∧ (sta = 7 ∨ (0 < tag' ↔ 2 ≤ sta)) ∧ (3 ≤ sta ∨ m + m' = 0) by omega), decide_eq_false s5]; rfl : v = false)
                clear HE
                try have dt1 := decide_eq_true t1
                try have dt2 := decide_eq_true t2
                try have ds1 := decide_eq_true s1
                try have ds2 := decide_eq_true s2
                try have ds3 := decide_eq_true s3
                try have ds5 := decide_eq_true s5
                try have dhmm := decide_eq_true hmm
                try have dt1 := decide_eq_false t1
                try have dt2 := decide_eq_false t2
                try have ds1 := decide_eq_false s1
                try have ds2 := decide_eq_false s2
                try have ds3 := decide_eq_false s3
                try have ds5 := decide_eq_false s5
                try have dhmm := decide_eq_false hmm
                go_wp2_with (first | (go_at_call 50; refine (in_any _ _ _ _).mono ?_; rintro e w' ⟨rfl, rfl⟩) | (go_at_call 75; refine (sopen_any _ _).mono ?_; rintro e w' ⟨rfl, rfl⟩))
                go_ret
                exact ⟨ret_bool (by first | exact HR.out.symm | (rw [HR.out]; first | exact decide_eq_true (by omega) | exact decide_eq_false (by omega))), B2.out⟩
end Go.Proofs.Ytgljbbdhhgamjaa
