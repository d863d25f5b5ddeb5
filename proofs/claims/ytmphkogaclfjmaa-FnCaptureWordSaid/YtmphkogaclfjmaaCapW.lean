/-
  What CapturePut returns, in the program and in the reference. Conditions: the list can be read.
-/
import Derived.Test.YtmphkogaclfjmaaCapE
import Derived.Test.YtmphkogaclfjmaaByteW
import Derived.Lib.AppendStr
import Derived.Deep.QuietTactic
namespace Go.Proofs.Ytmphkogaclfjmaa
open Go.ChangeShapes Go.WideShapes Go.ChangeAt Go.RowKit
set_option linter.unusedVariables false

theorem long_cells (n : Int) (h0 : 0 ≤ n) (h1 : n ≤ 4294967295) : ∀ j (hj : j < (long n.toNat).length), (#[Value.int .u8 (n / 16777216), Value.int .u8 (n / 65536 % 256), Value.int .u8 (n / 256 % 256), Value.int .u8 (n % 256)] : Array Value)[j]? = some (.int .u8 ((long n.toNat)[j].toNat : Int)) := by
  intro j hj
  have hj2 : j < 4 := hj
  have e0 : (UInt8.ofNat (n.toNat / 65536 / 256)).toNat = n.toNat / 65536 / 256 := by simp; omega
  have e1 : (UInt8.ofNat (n.toNat / 65536 % 256)).toNat = n.toNat / 65536 % 256 := by simp
  have e2 : (UInt8.ofNat (n.toNat % 65536 / 256)).toNat = n.toNat % 65536 / 256 := by simp; omega
  have e3 : (UInt8.ofNat (n.toNat % 65536 % 256)).toNat = n.toNat % 65536 % 256 := by simp
  match j, hj2 with
  | 0, _ =>
    show some _ = some (Value.int .u8 ((UInt8.ofNat (n.toNat / 65536 / 256)).toNat : Int))
    rw [e0, show n / 16777216 = ((n.toNat / 65536 / 256 : Nat) : Int) from by omega]
    rfl
  | 1, _ =>
    show some _ = some (Value.int .u8 ((UInt8.ofNat (n.toNat / 65536 % 256)).toNat : Int))
    rw [e1, show n / 65536 % 256 = ((n.toNat / 65536 % 256 : Nat) : Int) from by omega]
    rfl
  | 2, _ =>
    show some _ = some (Value.int .u8 ((UInt8.ofNat (n.toNat % 65536 / 256)).toNat : Int))
    rw [e2, show n / 256 % 256 = ((n.toNat % 65536 / 256 : Nat) : Int) from by omega]
    rfl
  | 3, _ =>
    show some _ = some (Value.int .u8 ((UInt8.ofNat (n.toNat % 65536 % 256)).toNat : Int))
    rw [e3, show n % 256 = ((n.toNat % 65536 % 256 : Nat) : Int) from by omega]
    rfl
theorem conv_long (n : Int) (h0 : 0 ≤ n) (h1 : n ≤ 4294967295) (w : World) :
    (convert 29 9 (.slice (some ⟨w.heap.size, 0, none⟩) 4 4)).run Try.prog (w.alloc (.cells #[.int .u8 (n / 16777216), .int .u8 (n / 65536 % 256), .int .u8 (n / 256 % 256), .int .u8 (n % 256)] 5)) = .ok (.string (mk (long n.toNat))) (w.alloc (.cells #[.int .u8 (n / 16777216), .int .u8 (n / 65536 % 256), .int .u8 (n / 256 % 256), .int .u8 (n % 256)] 5)) := by
  refine run_convert_bytes_back (P := Try.prog) _ 29 9 5 ⟨w.heap.size, 0, none⟩ 4 (long n.toNat) Try.underlying29 Try.underlying5 Try.underlying9 (fun j hj => ?_)
  have hadd : (⟨w.heap.size, 0, none⟩ : Addr).add j = ⟨w.heap.size, 0 + j, none⟩ := by unfold Addr.add; split <;> simp_all
  rw [hadd, (Blk.new w _ _).cell, Nat.zero_add]
  exact long_cells n h0 h1 j hj
set_option maxRecDepth 100000 in
theorem ilong_put (n : Int) (h0 : 0 ≤ n) (h1 : n ≤ 4294967295) (w : World) : Calls Try.prog 47 #[.int .i64 n] w fun e w' => e = .returned (.tuple #[.string (mk (long n.toNat)), .bool true]) ∧ Below w.heap.size w w' := by
  have hcv := fun w => conv_long n h0 h1 w
  go_enter Try.func47, Try.ntmps47
  go_wp2
  go_ret2
  exact ⟨rfl, by go_grown⟩
set_option maxRecDepth 100000 in
theorem l1word (n : Int) (h0 : 0 ≤ n) (h1 : n ≤ 65535) (w : World) : Calls Try.prog 56 #[.int .i64 n] w fun e w' => e = .returned (.string (mk (word n.toNat))) ∧ Below w.heap.size w w' := by
  have hcv := fun w => conv_word n h0 h1 w
  go_enter Try.func56, Try.ntmps56
  go_wp2
  go_ret
  exact ⟨rfl, by go_grown⟩
set_option maxRecDepth 100000 in
theorem l1long (n : Int) (h0 : 0 ≤ n) (h1 : n ≤ 4294967295) (w : World) : Calls Try.prog 55 #[.int .i64 n] w fun e w' => e = .returned (.string (mk (long n.toNat))) ∧ Below w.heap.size w w' := by
  have z1 : (mk (word (n / 65536).toNat)).size = 2 := rfl
  have z2 : (mk (word (n % 65536).toNat)).size = 2 := rfl
  have HM := Lib.hid (show mk (word (n / 65536).toNat) ++ mk (word (n % 65536).toNat) = mk (long n.toNat) from by
    rw [mk_append]
    unfold long
    rw [show (n / 65536).toNat = n.toNat / 65536 from by omega, show (n % 65536).toNat = n.toNat % 65536 from by omega])
  go_enter Try.func55, Try.ntmps55
  go_wp2_with fail
  refine (l1word _ (by omega) (by omega) _).mono ?_
  generalize mk (word (n / 65536).toNat) = S at z1 HM ⊢
  rintro e w1 ⟨rfl, b1⟩
  go_wp2_with fail
  refine (l1word _ (by omega) (by omega) _).mono ?_
  generalize mk (word (n % 65536).toNat) = T at z2 HM ⊢
  rintro e w2 ⟨rfl, b2⟩
  go_wp2
  go_ret
  exact ⟨by rw [← HM.out]; rfl, bstep b1 b2 b1.size⟩
theorem rec_bytes (t : Int) (s : ByteArray) : mk (recBytes (t, s)) = mk (long t.toNat) ++ mk (word s.size) ++ s := bl_inj (by
  rw [bl_append, bl_append]
  rfl)
theorem bsize (a b : ByteArray) : (a ++ b).size = a.size + b.size := by rw [← bl_len, bl_append, List.length_append, bl_len, bl_len]
set_option maxHeartbeats 800000 in
set_option maxRecDepth 100000 in
theorem l14put (t : Int) (s : ByteArray) (h0 : 0 ≤ t) (h1 : t ≤ 4294967295) (hs : s.size ≤ 120) (w : World) : Calls Try.prog 46 #[.agg #[.int .i64 t, .string s]] w fun e w' => e = .returned (.string (mk (recBytes (t, s)))) ∧ Below w.heap.size w w' := by
  obtain ⟨S, hS⟩ : ∃ S, S = mk (long t.toNat) := ⟨_, rfl⟩
  obtain ⟨T, hT⟩ : ∃ T, T = mk (word s.size) := ⟨_, rfl⟩
  have CL := Lib.hid (fun w => (by rw [hS]; exact l1long t h0 h1 w : Calls Try.prog 55 #[.int .i64 t] w fun e w' => e = .returned (.string S) ∧ Below w.heap.size w w'))
  have CW := Lib.hid (fun w => (by rw [hT]; have := l1word (s.size : Int) (by omega) (by omega) w; simpa using this : Calls Try.prog 56 #[.int .i64 (s.size : Int)] w fun e w' => e = .returned (.string T) ∧ Below w.heap.size w w'))
  have HM := Lib.hid (show mk (recBytes (t, s)) = S ++ T ++ s from by rw [hS, hT]; exact rec_bytes t s)
  have z1 : S.size = 4 := by rw [hS]; rfl
  have z2 : T.size = 2 := by rw [hT]; rfl
  have z3 := bsize S T
  have Q0 := Lib.hid (Blk.new w #[.int .i64 t, .string s] 33)
  have B0 := Lib.hid (((Below.refl w.heap.size w).alloc (Nat.le_refl _) (.cells #[.int .i64 t, .string s] 33)).drew)
  have p0 : (w.alloc (.cells #[.int .i64 t, .string s] 33)).cell? ⟨w.heap.size, 0, none⟩ = some (.int .i64 t) := Q0.out.get 0 rfl
  have p1 : (w.alloc (.cells #[.int .i64 t, .string s] 33)).cell? ⟨w.heap.size, 1, none⟩ = some (.string s) := Q0.out.get 1 rfl
  have hadd := fun w : World => run_string_add_sum (P := Try.prog) (w := w) (S ++ T) s (by rw [z3, z1, z2]; omega)
  have hlt : ¬ (S.size + T.size + s.size > 9223372036854775807) := by omega
  have hlt2 : ¬ ((9223372036854775807 : Nat) < S.size + T.size + s.size) := by omega
  have hlt3 : ¬ ((9223372036854775807 : Nat) < 4 + 2 + s.size) := by omega
  have hlt4 : ¬ ((9223372036854775807 : Nat) < 6 + s.size) := by omega
  clear hS hT
  go_enter Try.func46, Try.ntmps46
  go_wp2
  go_region_held3 (fun w' => w'.cell? ⟨w.heap.size, 0, none⟩ = some (.int .i64 t) ∧ w'.cell? ⟨w.heap.size, 1, none⟩ = some (.string s)) (first | exact ⟨p0, p1⟩ | exact ⟨pa0, pa1⟩ | exact ⟨pb0, pb1⟩ | go_keep)
    (first
      | (go_at_call 56; (with_reducible refine (CW.out _).mono ?_); rintro e wb ⟨rfl, bb⟩; have Qb := Lib.hid (Qa.out.below bb Qa.out.lt); have Bb := Lib.hid (bstep Ba.out bb Ba.out.size); have pb0 : wb.cell? ⟨w.heap.size, 0, none⟩ = some (.int .i64 t) := Qb.out.get 0 rfl; have pb1 : wb.cell? ⟨w.heap.size, 1, none⟩ = some (.string s) := Qb.out.get 1 rfl; clear bb)
      | (go_at_call 55; (with_reducible refine (CL.out _).mono ?_); rintro e wb ⟨rfl, bb⟩; have Qb := Lib.hid (Qa.out.below bb Qa.out.lt); have Bb := Lib.hid (bstep Ba.out bb Ba.out.size); have pb0 : wb.cell? ⟨w.heap.size, 0, none⟩ = some (.int .i64 t) := Qb.out.get 0 rfl; have pb1 : wb.cell? ⟨w.heap.size, 1, none⟩ = some (.string s) := Qb.out.get 1 rfl; clear bb)
      | (go_at_call 55; (with_reducible refine (CL.out _).mono ?_); rintro e wa ⟨rfl, ba⟩; have Qa := Lib.hid (Q0.out.drew.below ba (by simp)); have Ba := Lib.hid (bstep B0.out ba (by simp)); have pa0 : wa.cell? ⟨w.heap.size, 0, none⟩ = some (.int .i64 t) := Qa.out.get 0 rfl; have pa1 : wa.cell? ⟨w.heap.size, 1, none⟩ = some (.string s) := Qa.out.get 1 rfl; clear ba)
      | (go_at_call 56; (with_reducible refine (CW.out _).mono ?_); rintro e wa ⟨rfl, ba⟩; have Qa := Lib.hid (Q0.out.drew.below ba (by simp)); have Ba := Lib.hid (bstep B0.out ba (by simp)); have pa0 : wa.cell? ⟨w.heap.size, 0, none⟩ = some (.int .i64 t) := Qa.out.get 0 rfl; have pa1 : wa.cell? ⟨w.heap.size, 1, none⟩ = some (.string s) := Qa.out.get 1 rfl; clear ba))
  all_goals
    go_wp2
    go_ret
    exact ⟨by rw [HM.out]; rfl, Bb.out⟩
theorem capPut_yes {l : List Rec} (h : capB l = true) : capPut l = mk (capBytes l) := if_pos h
theorem capPut_no {l : List Rec} (h : capB l = false) : capPut l = ⟨#[]⟩ := if_neg (by simp [h])
theorem allBytes_take {l : List Rec} {k : Nat} {r : Rec} (h : l[k]? = some r) : allBytes (l.take (k + 1)) = allBytes (l.take k) ++ recBytes r := by rw [ftake_succ h, allBytes_snoc]
theorem timesB_mem : ∀ {l : List Rec} {low : Int}, timesB low l = true → ∀ r ∈ l, low ≤ r.1 ∧ r.1 ≤ 4294967295 ∧ r.2.size ≤ 120
  | [], _, _, r, h => by simp at h
  | y :: l, low, h, r, hr => by
    simp only [timesB, Bool.and_eq_true] at h
    have hy := recB_true h.1
    rcases List.mem_cons.1 hr with rfl | hr
    · exact hy
    · have := timesB_mem h.2 r hr
      omega
theorem allBytes_le : ∀ (l : List Rec), (∀ r ∈ l, r.2.size ≤ 120) → (allBytes l).length ≤ 126 * l.length
  | [], _ => by simp [allBytes]
  | r :: l, h => by
    have h1 := h r (by simp)
    have h2 := allBytes_le l (fun x hx => h x (by simp [hx]))
    rw [allBytes_cons, List.length_append, recBytes_len, List.length_cons]
    omega
set_option maxHeartbeats 800000 in
theorem scap_put (A : Option Addr) (n c : Nat) (l : List Rec) (w : World) (hs : Sl w w.heap.size A (recs l)) (hn : l.length = n) (hm : n ≤ 9223372036854775807) (ht : Txts l) :
    Calls Try.prog 30 #[.slice A n c] w fun e w' => e = .returned (.string (capPut l)) ∧ Below w.heap.size w w' := by
  have HS := Lib.hid hs; have HN := Lib.hid hn; have HT := Lib.hid ht; clear hs hn ht
  by_cases h1 : capB l = true
  · obtain ⟨h60, htm⟩ := capB_true h1
    have hn60 : n ≤ 60 := by have := HN.out; omega
    have HM := Lib.hid (timesB_mem htm)
    have HP := Lib.hid (capPut_yes h1)
    have H1 := Lib.hid h1
    clear h1 htm h60
    go_enter Try.func30, Try.ntmps30
    go_wp2_with fail
    refine (scap_valid _ _ _ l _ HS.out HN.out hm HT.out).mono ?_
    rw [H1.out]
    rintro e w1 ⟨rfl, b1⟩
    have B1 := Lib.hid b1
    have HS1 := Lib.hid ((HS.out.below b1 (Nat.le_refl _)).more b1.size)
    clear b1
    go_wp2
    go_loopw [3, 4] (fun s i wr => ∃ (k : Nat) (S : ByteArray), k ≤ n ∧ i = .int .i64 k ∧ s = .string S ∧ Hid (S = mk (tap ++ allBytes (l.take k))) ∧ S.size ≤ 4 + 126 * k ∧ Below w1.heap.size w1 wr) (fun _ i _ => n - (intOf i).toNat)
    case atStart => exact ⟨0, ⟨#[116, 97, 112, 49]⟩, by omega, rfl, rfl, Lib.hid rfl, by show 4 ≤ _; omega, Below.refl _ _⟩
    case round =>
      obtain ⟨k, S, hk, rfl, rfl, hS, hSz, hb⟩ := hrel
      have BR := Lib.hid hb
      clear hb
      by_cases hlt : k < n
      · obtain ⟨r, hr⟩ := fget_of_lt (xs := l) (k := k) (by rw [HN.out]; exact hlt)
        obtain ⟨m0, m1, m2⟩ := HM.out r (List.mem_of_getElem? hr)
        obtain ⟨b, off, rfl, hbl, e1, e2⟩ := recs_elem ((HS1.out.below BR.out (Nat.le_refl _)).more BR.out.size) hr
        have HA := Lib.hid (allBytes_take hr)
        obtain ⟨t, s⟩ := r
        change 0 ≤ t at m0
        change t ≤ 4294967295 at m1
        change s.size ≤ 120 at m2
        have hT : (mk (recBytes (t, s))).size ≤ 126 := by rw [mk_size, recBytes_len]; show 6 + s.size ≤ 126; omega
        have HK := Lib.hid (show mk (tap ++ allBytes (l.take (k + 1))) = S ++ mk (recBytes (t, s)) from by rw [HA.out, hS.out, mk_append, List.append_assoc])
        have hz := bsize S (mk (recBytes (t, s)))
        have hz2 : (S ++ mk (recBytes (t, s))).size ≤ 4 + 126 * (k + 1) := by rw [hz]; omega
        clear hr hz HA
        go_wp2_with fail
        refine (l14put t s m0 m1 m2 _).mono ?_
        generalize mk (recBytes (t, s)) = T at hT HK hz2 ⊢
        rintro e w2 ⟨rfl, b2⟩
        have B2 := Lib.hid (bstep BR.out b2 BR.out.size)
        clear b2 e1 e2
        go_wp2
        go_roundw
        case rel => exact ⟨k + 1, S ++ T, by omega, by go_num, rfl, Lib.hid HK.out.symm, hz2, B2.out⟩
        case measure => simp [intOf]; omega
      · have HE := Lib.hid (show S = mk (capBytes l) from by rw [hS.out, List.take_of_length_le (by rw [HN.out]; omega)]; rfl)
        clear hS
        go_wp2
        go_ret
        exact ⟨by rw [HP.out, ← HE.out]; rfl, bstep B1.out BR.out B1.out.size⟩
  · have h1 : capB l = false := by simpa using h1
    have HP := Lib.hid (capPut_no h1)
    go_enter Try.func30, Try.ntmps30
    go_wp2_with fail
    refine (scap_valid _ _ _ l _ HS.out HN.out hm HT.out).mono ?_
    rw [h1]
    rintro e w1 ⟨rfl, b1⟩
    go_wp2
    go_ret
    exact ⟨by rw [HP.out]; rfl, b1⟩
end Go.Proofs.Ytmphkogaclfjmaa
