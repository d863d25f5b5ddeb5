/-
  The chain of a complete message: what the program and the reference find. Conditions: those that each theorem bears.
-/
import Derived.Test.YtkhaodbcnnlhaaaAsmP
import Derived.Test.YtkhaodbcnnlhaaaCopy2
namespace Go.Proofs.Ytkhaodbcnnlhaaa
open Go.ChangeShapes Go.WideShapes Go.ChangeAt Go.RowKit
set_option linter.unusedVariables false
set_option linter.unusedSimpArgs false
def nats (l : List Nat) : List Value := ints (l.map Int.ofNat)
theorem nats_len (l : List Nat) : (nats l).length = l.length := by unfold nats; rw [ints_len, List.length_map]
theorem nats_one (l : List Nat) : ∀ u ∈ nats l, u.oneCell' = true := ints_ones _
theorem nats_app (a b : List Nat) : nats (a ++ b) = nats a ++ nats b := by unfold nats ints; rw [List.map_append, List.map_append]
theorem nats_at {l : List Nat} {i x : Nat} (h : l[i]? = some x) : (nats l)[i]? = some (.int .i64 (x : Int)) := by
  unfold nats
  exact ints_at_ (z := (x : Int)) (by rw [List.getElem?_map, h]; rfl)
def lenOf : Value → Nat
  | .slice _ n _ => n
  | _ => 0
/-- A list of numbers is returned; where 'nil' is asked, no memory if it is empty. -/
def ChainP (nl : Bool) (R : List Nat) (w : World) (e : Ending) (w' : World) : Prop :=
  ∃ A q c, e = .returned (.slice A q c) ∧ R.length = q ∧ (nl = true → R = [] → A = none ∧ c = 0) ∧ Own w' w.heap.size 3 1 A q c (nats R) ∧ Below w.heap.size w w'
theorem chain_ne {R : List Nat} {acc : List Nat} {q : Nat} (h : acc = R) (hl : acc.length = q) (hq : 0 < q) (A : Option Addr) (c : Nat) : (true = true → R = [] → A = none ∧ c = 0) := fun _ h2 => by
  subst h
  rw [h2] at hl
  simp at hl
  omega
set_option maxHeartbeats 6400000 in
set_option maxRecDepth 100000 in
theorem ichain (A : Option Addr) (n c : Nat) (ps : List Dat) (k0 : Nat) {d : Dat} {R : List Nat} (hR : chainP ps k0 = R) (w : World) (hs : Sl w w.heap.size A (dats ps)) (hn : ps.length = n) (h13 : n ≤ 13) (hk : ps[k0]? = some d) (hok : okB d.tsn = true) (hf : d.first = true) :
    Calls Try.prog 61 #[.slice A n c, .int .i64 k0] w (ChainP true R w) := by
  obtain ⟨i0, hi, hz0, hz1, hz2⟩ := info_parts info_int'
  have HS := Lib.hid hs; have HN := Lib.hid hn; have HR := Lib.hid hR; clear hs hn hR
  have hkn : k0 < n := by rw [← HN.out]; exact (List.getElem?_eq_some_iff.1 hk).1
  have G0 := Lib.hid (good_start hk hok)
  obtain ⟨b, off, rfl, hbl, ⟨e0, e1, e2, e3, e4, e5, e6⟩⟩ := dats_elem HS.out hk
  rw [hf] at e3
  clear e0 e1 e2 e4 e5 e6 hk hok hf
  go_enter Try.func61, Try.ntmps61
  go_wp2
  go_loopw [1, 5] (fun av ov wr => ∃ (f k q : Nat) (acc : List Nat) (A1 : Option Addr) (c1 : Nat), av = .int .i64 k ∧ ov = .slice A1 q c1 ∧ Hid (acc.length = q) ∧ f + q = 15 ∧ 0 < q ∧ q ≤ 13 ∧ Hid (chainA ps f k acc = R) ∧ Hid (Good ps k acc) ∧ Own wr w.heap.size 3 1 A1 q c1 (nats acc) ∧ Below w.heap.size w wr) (fun av ov _ => 14 - lenOf ov)
  case atStart =>
    refine ⟨14, k0, 1, [k0], some ⟨w.heap.size, 0, none⟩, 1, rfl, rfl, Lib.hid rfl, by omega, by omega, by omega, HR, G0, ?_, by go_grown⟩
    exact ⟨rfl, .inr ⟨w.heap.size, 1, #[.int .i64 (k0 : Int)], rfl, Nat.le_refl _, heap_alloc_new w _, Nat.le_refl _, by unfold maxLen; omega, rfl, rfl⟩⟩
  case round =>
    obtain ⟨f, k, q, acc, A1, c1, rfl, rfl, hal, hfq, hq0, hq, hE, hG, ho, hb⟩ := hrel
    have O := Lib.hid ho
    have B := Lib.hid hb
    clear ho hb e3
    obtain ⟨f, rfl⟩ : ∃ g, f = g + 1 := ⟨f - 1, by omega⟩
    obtain ⟨d, hd, hdk⟩ := good_in hG.out
    have hlt : k < n := by rw [← HN.out]; exact (List.getElem?_eq_some_iff.1 hd).1
    have hk0 : (0 : Int) ≤ (k : Int) := by omega
    have hkn : (k : Int) < (n : Int) := by omega
    have HSr := Lib.hid ((HS.out.below B.out (Nat.le_refl _)).more B.out.size)
    obtain ⟨b2, off2, hA2, hbr, ⟨e0, e1, e2, e3, e4, e5, e6⟩⟩ := dats_elem HSr.out hd
    injection hA2 with hA2; injection hA2 with hb2 ho2; subst hb2 ho2
    have HD := Lib.hid hd
    clear hd
    obtain ⟨d0, d1, d2, d3, d4, d5, d6⟩ := d
    change okB d0 = true at hdk
    change World.cell? _ _ = some (.int .i64 d0) at e0
    change World.cell? _ _ = some (.int .i64 d1) at e1
    change World.cell? _ _ = some (.int .i64 d2) at e2
    change World.cell? _ _ = some (.bool d3) at e3
    change World.cell? _ _ = some (.bool d4) at e4
    change World.cell? _ _ = some (.bool d5) at e5
    change World.cell? _ _ = some (.string d6) at e6
    cases d4 with
    | true =>
      have HE := Lib.hid ((chain_last HD.out rfl).symm.trans hE.out)
      clear hE
      go_wp2
      go_ret
      exact ⟨A1, q, c1, rfl, by rw [← HE.out]; exact hal.out, chain_ne HE.out hal.out hq0 A1 c1, by rw [← HE.out]; exact O.out, B.out⟩
    | false =>
      rcases atK_cases (sadd d0 1) ps with ha | ⟨j, z, ha, hz, hzt⟩
      · obtain ⟨r, hr⟩ : ∃ r, atK (sadd d0 1) ps 0 = r := ⟨_, rfl⟩
        have HE := Lib.hid ((chain_none HD.out rfl ha).symm.trans hE.out)
        rw [hr] at ha
        clear hE
        have hneg : decide (r < 0) = true := decide_eq_true ha
        go_wp2_with fail
        refine (iadd_any _ _ _).mono ?_
        rintro e w1 ⟨rfl, rfl⟩
        go_wp2_with fail
        refine (ipart_eq hr _ HSr.out HN.out (by omega)).mono ?_
        rintro e w2 ⟨rfl, b2⟩
        have hszr := B.out.size
        have B2 := Lib.hid (bstep B.out b2 hszr)
        have O2 := Lib.hid (O.out.below b2 (Nat.le_refl _))
        have HS2 := Lib.hid (HSr.out.below b2 (Nat.le_refl _) |>.more b2.size)
        clear b2 e0 e1 e2 e3 e4 e5 e6
        go_wp2
        refine wp_region_held_drew (S := fun w' => True) (by kernel_rfl) (by first | exact trivial | go_keep) (fun hHeld => ?_)
        refine wpAnyH_take (i := 0) (oi := ⟨some 29, _, _, _, _, _⟩) (v := ?_) rfl (by kernel_rfl) (by kernel_rfl) (by kernel_rfl) (fun _ _ _ h => h) (Or.inl ⟨by kernel_rfl, ?y1⟩) (by assumption) ?_
        case y1 => (intro w hSw; (try dsimp only at hSw); first | (go_simp; done) | (go_simp; with_reducible rfl))
        simp only [Act.put, List.setIfInBounds_toArray, List.set_cons_zero, List.set_cons_succ]
        refine wpAnyH_take (i := 1) (oi := ⟨some 30, _, _, _, _, _⟩) (v := ?_) rfl (by kernel_rfl) (by kernel_rfl) (by kernel_rfl) (fun _ _ _ h => h) (Or.inl ⟨by kernel_rfl, ?y2⟩) (by assumption) ?_
        case y2 => (intro w hSw; (try dsimp only at hSw); first | (go_simp; done) | (go_simp; with_reducible rfl))
        simp only [Act.put, List.setIfInBounds_toArray, List.set_cons_zero, List.set_cons_succ]
        refine wpAnyH_take (i := 2) (oi := ⟨some 31, _, _, _, _, _⟩) (v := ?_) rfl (by kernel_rfl) (by kernel_rfl) (by kernel_rfl) (fun _ _ _ h => h) (Or.inl ⟨by kernel_rfl, ?y3⟩) (by assumption) ?_
        case y3 => (intro w hSw; (try dsimp only at hSw); first | (go_simp; done) | (go_simp; with_reducible rfl))
        simp only [Act.put, List.setIfInBounds_toArray, List.set_cons_zero, List.set_cons_succ]
        refine wpAnyH_take (i := 3) (oi := ⟨some 32, _, _, _, _, _⟩) (v := undef) rfl (by kernel_rfl) (by kernel_rfl) (by kernel_rfl) (fun _ _ _ h => h) (Or.inr ⟨by kernel_rfl, rfl⟩) (by assumption) ?_
        simp only [Act.put, List.setIfInBounds_toArray, List.set_cons_zero, List.set_cons_succ]
        refine wpAnyH_take (i := 4) (oi := ⟨some 33, _, _, _, _, _⟩) (v := undef) rfl (by kernel_rfl) (by kernel_rfl) (by kernel_rfl) (fun _ _ _ h => h) (Or.inr ⟨by kernel_rfl, rfl⟩) (by assumption) ?_
        simp only [Act.put, List.setIfInBounds_toArray, List.set_cons_zero, List.set_cons_succ]
        refine wpAnyH_take (i := 5) (oi := ⟨some 34, _, _, _, _, _⟩) (v := undef) rfl (by kernel_rfl) (by kernel_rfl) (by kernel_rfl) (fun _ _ _ h => h) (Or.inr ⟨by kernel_rfl, rfl⟩) (by assumption) ?_
        simp only [Act.put, List.setIfInBounds_toArray, List.set_cons_zero, List.set_cons_succ]
        refine wpAnyH_take (i := 6) (oi := ⟨some 35, _, _, _, _, _⟩) (v := undef) rfl (by kernel_rfl) (by kernel_rfl) (by kernel_rfl) (fun _ _ _ h => h) (Or.inr ⟨by kernel_rfl, rfl⟩) (by assumption) ?_
        simp only [Act.put, List.setIfInBounds_toArray, List.set_cons_zero, List.set_cons_succ]
        refine wpAnyH_take (i := 7) (oi := ⟨some 36, _, _, _, _, _⟩) (v := undef) rfl (by kernel_rfl) (by kernel_rfl) (by kernel_rfl) (fun _ _ _ h => h) (Or.inr ⟨by kernel_rfl, rfl⟩) (by assumption) ?_
        simp only [Act.put, List.setIfInBounds_toArray, List.set_cons_zero, List.set_cons_succ]
        refine wpAnyH_take (i := 8) (oi := ⟨some 37, _, _, _, _, _⟩) (v := ?_) rfl (by kernel_rfl) (by kernel_rfl) (by kernel_rfl) (fun _ _ _ h => h) (Or.inl ⟨by kernel_rfl, ?y4⟩) (by assumption) ?_
        case y4 => (intro w hSw; (try dsimp only at hSw); first | (go_simp; done) | (go_simp; with_reducible rfl))
        simp only [Act.put, List.setIfInBounds_toArray, List.set_cons_zero, List.set_cons_succ]
        refine wpAnyH_take (i := 9) (oi := ⟨some 38, _, _, _, _, _⟩) (v := ?_) rfl (by kernel_rfl) (by kernel_rfl) (by kernel_rfl) (fun _ _ _ h => h) (Or.inl ⟨by kernel_rfl, ?y5⟩) (by assumption) ?_
        case y5 => (intro w hSw; (try dsimp only at hSw); first | (go_simp; done) | (go_simp; with_reducible rfl))
        simp only [Act.put, List.setIfInBounds_toArray, List.set_cons_zero, List.set_cons_succ]
        refine wpAnyH_take (i := 10) (oi := ⟨some 39, _, _, _, _, _⟩) (v := undef) rfl (by kernel_rfl) (by kernel_rfl) (by kernel_rfl) (fun _ _ _ h => h) (Or.inr ⟨by kernel_rfl, rfl⟩) (by assumption) ?_
        simp only [Act.put, List.setIfInBounds_toArray, List.set_cons_zero, List.set_cons_succ]
        refine wpAnyH_take (i := 11) (oi := ⟨some 40, _, _, _, _, _⟩) (v := undef) rfl (by kernel_rfl) (by kernel_rfl) (by kernel_rfl) (fun _ _ _ h => h) (Or.inr ⟨by kernel_rfl, rfl⟩) (by assumption) ?_
        simp only [Act.put, List.setIfInBounds_toArray, List.set_cons_zero, List.set_cons_succ]
        refine wpAnyH_take (i := 12) (oi := ⟨some 41, _, _, _, _, _⟩) (v := undef) rfl (by kernel_rfl) (by kernel_rfl) (by kernel_rfl) (fun _ _ _ h => h) (Or.inr ⟨by kernel_rfl, rfl⟩) (by assumption) ?_
        simp only [Act.put, List.setIfInBounds_toArray, List.set_cons_zero, List.set_cons_succ]
        refine wpAnyH_take (i := 13) (oi := ⟨some 42, _, _, _, _, _⟩) (v := undef) rfl (by kernel_rfl) (by kernel_rfl) (by kernel_rfl) (fun _ _ _ h => h) (Or.inr ⟨by kernel_rfl, rfl⟩) (by assumption) ?_
        simp only [Act.put, List.setIfInBounds_toArray, List.set_cons_zero, List.set_cons_succ]
        refine wpAnyH_take (i := 14) (oi := ⟨some 43, _, _, _, _, _⟩) (v := undef) rfl (by kernel_rfl) (by kernel_rfl) (by kernel_rfl) (fun _ _ _ h => h) (Or.inr ⟨by kernel_rfl, rfl⟩) (by assumption) ?_
        simp only [Act.put, List.setIfInBounds_toArray, List.set_cons_zero, List.set_cons_succ]
        refine wpAnyH_take (i := 15) (oi := ⟨some 44, _, _, _, _, _⟩) (v := undef) rfl (by kernel_rfl) (by kernel_rfl) (by kernel_rfl) (fun _ _ _ h => h) (Or.inr ⟨by kernel_rfl, rfl⟩) (by assumption) ?_
        simp only [Act.put, List.setIfInBounds_toArray, List.set_cons_zero, List.set_cons_succ]
        refine wpAnyH_take (i := 16) (oi := ⟨some 45, _, _, _, _, _⟩) (v := undef) rfl (by kernel_rfl) (by kernel_rfl) (by kernel_rfl) (fun _ _ _ h => h) (Or.inr ⟨by kernel_rfl, rfl⟩) (by assumption) ?_
        simp only [Act.put, List.setIfInBounds_toArray, List.set_cons_zero, List.set_cons_succ]
        refine wpAnyH_take (i := 17) (oi := ⟨some 46, _, _, _, _, _⟩) (v := undef) rfl (by kernel_rfl) (by kernel_rfl) (by kernel_rfl) (fun _ _ _ h => h) (Or.inr ⟨by kernel_rfl, rfl⟩) (by assumption) ?_
        simp only [Act.put, List.setIfInBounds_toArray, List.set_cons_zero, List.set_cons_succ]
        refine wpAnyH_take (i := 18) (oi := ⟨some 47, _, _, _, _, _⟩) (v := undef) rfl (by kernel_rfl) (by kernel_rfl) (by kernel_rfl) (fun _ _ _ h => h) (Or.inr ⟨by kernel_rfl, rfl⟩) (by assumption) ?_
        simp only [Act.put, List.setIfInBounds_toArray, List.set_cons_zero, List.set_cons_succ]
        refine wpAnyH_take (i := 19) (oi := ⟨some 48, _, _, _, _, _⟩) (v := undef) rfl (by kernel_rfl) (by kernel_rfl) (by kernel_rfl) (fun _ _ _ h => h) (Or.inr ⟨by kernel_rfl, rfl⟩) (by assumption) ?_
        simp only [Act.put, List.setIfInBounds_toArray, List.set_cons_zero, List.set_cons_succ]
        refine wpAnyH_take (i := 20) (oi := ⟨some 49, _, _, _, _, _⟩) (v := ?_) rfl (by kernel_rfl) (by kernel_rfl) (by kernel_rfl) (fun _ _ _ h => h) (Or.inl ⟨by kernel_rfl, ?y6⟩) (by assumption) ?_
        case y6 => (intro w hSw; (try dsimp only at hSw); first | (go_simp; done) | (go_simp; with_reducible rfl))
        simp only [Act.put, List.setIfInBounds_toArray, List.set_cons_zero, List.set_cons_succ]
        refine wpAnyH_done (by kernel_rfl) ?_ _
        go_wp2
        go_ret
        exact ⟨none, 0, 0, rfl, by rw [← HE.out]; rfl, fun _ _ => ⟨rfl, rfl⟩, by rw [← HE.out]; exact Own.nil _ _ _ _, B2.out.drew⟩
      · have hjl : j < n := by rw [← HN.out]; exact (List.getElem?_eq_some_iff.1 hz).1
        have hj0 : (0 : Int) ≤ (j : Int) := by omega
        have hjn : (j : Int) < (n : Int) := by omega
        have hneg : decide ((j : Int) < 0) = false := decide_eq_false (by omega)
        have hg2 := good_step hG.out HD.out hz hzt
        have HG2 := Lib.hid hg2
        have HZ := Lib.hid hz
        clear hz hzt hg2 hG
        obtain ⟨z0, z1, z2, z3, z4, z5, z6⟩ := z
        have HA := Lib.hid ha
        cases z3 with
        | true =>
          have HE := Lib.hid ((chain_bad HD.out rfl HA.out HZ.out rfl).symm.trans hE.out)
          clear hE
          go_wp2_with fail
          refine (iadd_any _ _ _).mono ?_
          rintro e w1 ⟨rfl, rfl⟩
          go_wp2_with fail
          refine (ipart_eq ha _ HSr.out HN.out (by omega)).mono ?_
          rintro e w2 ⟨rfl, b2⟩
          have hszr := B.out.size
          have B2 := Lib.hid (bstep B.out b2 hszr)
          have O2 := Lib.hid (O.out.below b2 (Nat.le_refl _))
          have HS2 := Lib.hid (HSr.out.below b2 (Nat.le_refl _) |>.more b2.size)
          clear b2 e0 e1 e2 e3 e4 e5 e6
          go_wp2
          obtain ⟨b3, off3, hA3, hb3, ⟨x0, x1, x2, x3, x4, x5, x6⟩⟩ := dats_elem HS2.out HZ.out
          injection hA3 with hA3; injection hA3 with hb3' ho3; subst hb3' ho3
          change w2.cell? ⟨b, off + j * 7, none⟩ = some (.int .i64 z0) at x0
          change w2.cell? ⟨b, off + j * 7 + 1, none⟩ = some (.int .i64 z1) at x1
          change w2.cell? ⟨b, off + j * 7 + 2, none⟩ = some (.int .i64 z2) at x2
          change w2.cell? ⟨b, off + j * 7 + 3, none⟩ = some (.bool true) at x3
          change w2.cell? ⟨b, off + j * 7 + 4, none⟩ = some (.bool z4) at x4
          change w2.cell? ⟨b, off + j * 7 + 5, none⟩ = some (.bool z5) at x5
          change w2.cell? ⟨b, off + j * 7 + 6, none⟩ = some (.string z6) at x6
          refine wp_region_held_drew (S := fun w' => w'.cell? ⟨b, off + j * 7 + 3, none⟩ = some (.bool true)) (by kernel_rfl) (by first | exact x3 | go_keep) (fun hHeld => ?_)
          refine wpAnyH_take (i := 0) (oi := ⟨some 29, _, _, _, _, _⟩) (v := ?_) rfl (by kernel_rfl) (by kernel_rfl) (by kernel_rfl) (fun _ _ _ h => h) (Or.inl ⟨by kernel_rfl, ?y7⟩) (by assumption) ?_
          case y7 => (intro w hSw; (try dsimp only at hSw); first | (go_simp; done) | (go_simp; with_reducible rfl))
          simp only [Act.put, List.setIfInBounds_toArray, List.set_cons_zero, List.set_cons_succ]
          refine wpAnyH_take (i := 1) (oi := ⟨some 30, _, _, _, _, _⟩) (v := ?_) rfl (by kernel_rfl) (by kernel_rfl) (by kernel_rfl) (fun _ _ _ h => h) (Or.inl ⟨by kernel_rfl, ?y8⟩) (by assumption) ?_
          case y8 => (intro w hSw; (try dsimp only at hSw); first | (go_simp; done) | (go_simp; with_reducible rfl))
          simp only [Act.put, List.setIfInBounds_toArray, List.set_cons_zero, List.set_cons_succ]
          refine wpAnyH_take (i := 2) (oi := ⟨some 31, _, _, _, _, _⟩) (v := ?_) rfl (by kernel_rfl) (by kernel_rfl) (by kernel_rfl) (fun _ _ _ h => h) (Or.inl ⟨by kernel_rfl, ?y9⟩) (by assumption) ?_
          case y9 => (intro w hSw; (try dsimp only at hSw); first | (go_simp; done) | (go_simp; with_reducible rfl))
          simp only [Act.put, List.setIfInBounds_toArray, List.set_cons_zero, List.set_cons_succ]
          refine wpAnyH_take (i := 3) (oi := ⟨some 32, _, _, _, _, _⟩) (v := ?_) rfl (by kernel_rfl) (by kernel_rfl) (by kernel_rfl) (fun _ _ _ h => h) (Or.inl ⟨by kernel_rfl, ?y10⟩) (by assumption) ?_
          case y10 => (intro w hSw; (try dsimp only at hSw); first | (go_simp; done) | (go_simp; with_reducible rfl))
          simp only [Act.put, List.setIfInBounds_toArray, List.set_cons_zero, List.set_cons_succ]
          refine wpAnyH_take (i := 4) (oi := ⟨some 33, _, _, _, _, _⟩) (v := ?_) rfl (by kernel_rfl) (by kernel_rfl) (by kernel_rfl) (fun _ _ _ h => h) (Or.inl ⟨by kernel_rfl, ?y11⟩) (by assumption) ?_
          case y11 => (intro w hSw; (try dsimp only at hSw); first | (go_simp; done) | (go_simp; with_reducible rfl))
          simp only [Act.put, List.setIfInBounds_toArray, List.set_cons_zero, List.set_cons_succ]
          refine wpAnyH_take (i := 5) (oi := ⟨some 34, _, _, _, _, _⟩) (v := ?_) rfl (by kernel_rfl) (by kernel_rfl) (by kernel_rfl) (fun _ _ _ h => h) (Or.inl ⟨by kernel_rfl, ?y12⟩) (by assumption) ?_
          case y12 => (intro w hSw; (try dsimp only at hSw); first | (go_simp; done) | (go_simp; with_reducible rfl))
          simp only [Act.put, List.setIfInBounds_toArray, List.set_cons_zero, List.set_cons_succ]
          refine wpAnyH_take (i := 6) (oi := ⟨some 35, _, _, _, _, _⟩) (v := ?_) rfl (by kernel_rfl) (by kernel_rfl) (by kernel_rfl) (fun _ _ _ h => h) (Or.inl ⟨by kernel_rfl, ?y13⟩) (by assumption) ?_
          case y13 => (intro w hSw; (try dsimp only at hSw); first | (go_simp; done) | (go_simp; with_reducible rfl))
          simp only [Act.put, List.setIfInBounds_toArray, List.set_cons_zero, List.set_cons_succ]
          refine wpAnyH_take (i := 7) (oi := ⟨some 36, _, _, _, _, _⟩) (v := ?_) rfl (by kernel_rfl) (by kernel_rfl) (by kernel_rfl) (fun _ _ _ h => h) (Or.inl ⟨by kernel_rfl, ?y14⟩) (by assumption) ?_
          case y14 => (intro w hSw; (try dsimp only at hSw); first | (go_simp; done) | (go_simp; with_reducible rfl))
          simp only [Act.put, List.setIfInBounds_toArray, List.set_cons_zero, List.set_cons_succ]
          refine wpAnyH_take (i := 8) (oi := ⟨some 37, _, _, _, _, _⟩) (v := ?_) rfl (by kernel_rfl) (by kernel_rfl) (by kernel_rfl) (fun _ _ _ h => h) (Or.inl ⟨by kernel_rfl, ?y15⟩) (by assumption) ?_
          case y15 => (intro w hSw; (try dsimp only at hSw); first | (go_simp; done) | (go_simp; with_reducible rfl))
          simp only [Act.put, List.setIfInBounds_toArray, List.set_cons_zero, List.set_cons_succ]
          refine wpAnyH_take (i := 9) (oi := ⟨some 38, _, _, _, _, _⟩) (v := ?_) rfl (by kernel_rfl) (by kernel_rfl) (by kernel_rfl) (fun _ _ _ h => h) (Or.inl ⟨by kernel_rfl, ?y16⟩) (by assumption) ?_
          case y16 => (intro w hSw; (try dsimp only at hSw); first | (go_simp; done) | (go_simp; with_reducible rfl))
          simp only [Act.put, List.setIfInBounds_toArray, List.set_cons_zero, List.set_cons_succ]
          refine wpAnyH_take (i := 10) (oi := ⟨some 39, _, _, _, _, _⟩) (v := undef) rfl (by kernel_rfl) (by kernel_rfl) (by kernel_rfl) (fun _ _ _ h => h) (Or.inr ⟨by kernel_rfl, rfl⟩) (by assumption) ?_
          simp only [Act.put, List.setIfInBounds_toArray, List.set_cons_zero, List.set_cons_succ]
          refine wpAnyH_take (i := 11) (oi := ⟨some 40, _, _, _, _, _⟩) (v := undef) rfl (by kernel_rfl) (by kernel_rfl) (by kernel_rfl) (fun _ _ _ h => h) (Or.inr ⟨by kernel_rfl, rfl⟩) (by assumption) ?_
          simp only [Act.put, List.setIfInBounds_toArray, List.set_cons_zero, List.set_cons_succ]
          refine wpAnyH_take (i := 12) (oi := ⟨some 41, _, _, _, _, _⟩) (v := undef) rfl (by kernel_rfl) (by kernel_rfl) (by kernel_rfl) (fun _ _ _ h => h) (Or.inr ⟨by kernel_rfl, rfl⟩) (by assumption) ?_
          simp only [Act.put, List.setIfInBounds_toArray, List.set_cons_zero, List.set_cons_succ]
          refine wpAnyH_take (i := 13) (oi := ⟨some 42, _, _, _, _, _⟩) (v := undef) rfl (by kernel_rfl) (by kernel_rfl) (by kernel_rfl) (fun _ _ _ h => h) (Or.inr ⟨by kernel_rfl, rfl⟩) (by assumption) ?_
          simp only [Act.put, List.setIfInBounds_toArray, List.set_cons_zero, List.set_cons_succ]
          refine wpAnyH_take (i := 14) (oi := ⟨some 43, _, _, _, _, _⟩) (v := undef) rfl (by kernel_rfl) (by kernel_rfl) (by kernel_rfl) (fun _ _ _ h => h) (Or.inr ⟨by kernel_rfl, rfl⟩) (by assumption) ?_
          simp only [Act.put, List.setIfInBounds_toArray, List.set_cons_zero, List.set_cons_succ]
          refine wpAnyH_take (i := 15) (oi := ⟨some 44, _, _, _, _, _⟩) (v := undef) rfl (by kernel_rfl) (by kernel_rfl) (by kernel_rfl) (fun _ _ _ h => h) (Or.inr ⟨by kernel_rfl, rfl⟩) (by assumption) ?_
          simp only [Act.put, List.setIfInBounds_toArray, List.set_cons_zero, List.set_cons_succ]
          refine wpAnyH_take (i := 16) (oi := ⟨some 45, _, _, _, _, _⟩) (v := undef) rfl (by kernel_rfl) (by kernel_rfl) (by kernel_rfl) (fun _ _ _ h => h) (Or.inr ⟨by kernel_rfl, rfl⟩) (by assumption) ?_
          simp only [Act.put, List.setIfInBounds_toArray, List.set_cons_zero, List.set_cons_succ]
          refine wpAnyH_take (i := 17) (oi := ⟨some 46, _, _, _, _, _⟩) (v := undef) rfl (by kernel_rfl) (by kernel_rfl) (by kernel_rfl) (fun _ _ _ h => h) (Or.inr ⟨by kernel_rfl, rfl⟩) (by assumption) ?_
          simp only [Act.put, List.setIfInBounds_toArray, List.set_cons_zero, List.set_cons_succ]
          refine wpAnyH_take (i := 18) (oi := ⟨some 47, _, _, _, _, _⟩) (v := undef) rfl (by kernel_rfl) (by kernel_rfl) (by kernel_rfl) (fun _ _ _ h => h) (Or.inr ⟨by kernel_rfl, rfl⟩) (by assumption) ?_
          simp only [Act.put, List.setIfInBounds_toArray, List.set_cons_zero, List.set_cons_succ]
          refine wpAnyH_take (i := 19) (oi := ⟨some 48, _, _, _, _, _⟩) (v := undef) rfl (by kernel_rfl) (by kernel_rfl) (by kernel_rfl) (fun _ _ _ h => h) (Or.inr ⟨by kernel_rfl, rfl⟩) (by assumption) ?_
          simp only [Act.put, List.setIfInBounds_toArray, List.set_cons_zero, List.set_cons_succ]
          refine wpAnyH_take (i := 20) (oi := ⟨some 49, _, _, _, _, _⟩) (v := ?_) rfl (by kernel_rfl) (by kernel_rfl) (by kernel_rfl) (fun _ _ _ h => h) (Or.inl ⟨by kernel_rfl, ?y17⟩) (by assumption) ?_
          case y17 => (intro w hSw; (try dsimp only at hSw); first | (go_simp; done) | (go_simp; with_reducible rfl))
          simp only [Act.put, List.setIfInBounds_toArray, List.set_cons_zero, List.set_cons_succ]
          refine wpAnyH_done (by kernel_rfl) ?_ _
          go_wp2
          go_ret
          exact ⟨none, 0, 0, rfl, by rw [← HE.out]; rfl, fun _ _ => ⟨rfl, rfl⟩, by rw [← HE.out]; exact Own.nil _ _ _ _, B2.out.drew⟩
        | false =>
          obtain ⟨lv, hlv⟩ : ∃ v, likeB ⟨z0, z1, z2, false, z4, z5, z6⟩ ⟨d0, d1, d2, d3, false, d5, d6⟩ = v := ⟨_, rfl⟩
          have HL := Lib.hid hlv
          clear hlv
          cases lv with
          | false =>
            have HE := Lib.hid ((chain_bad HD.out rfl HA.out HZ.out (by simp [HL.out])).symm.trans hE.out)
            clear hE
            go_wp2_with fail
            refine (iadd_any _ _ _).mono ?_
            rintro e w1 ⟨rfl, rfl⟩
            go_wp2_with fail
            refine (ipart_eq ha _ HSr.out HN.out (by omega)).mono ?_
            rintro e w2 ⟨rfl, b2⟩
            have hszr := B.out.size
            have B2 := Lib.hid (bstep B.out b2 hszr)
            have O2 := Lib.hid (O.out.below b2 (Nat.le_refl _))
            have HS2 := Lib.hid (HSr.out.below b2 (Nat.le_refl _) |>.more b2.size)
            clear b2 e0 e1 e2 e3 e4 e5 e6
            go_wp2
            obtain ⟨b3, off3, hA3, hb3, ⟨x0, x1, x2, x3, x4, x5, x6⟩⟩ := dats_elem HS2.out HZ.out
            injection hA3 with hA3; injection hA3 with hb3' ho3; subst hb3' ho3
            change w2.cell? ⟨b, off + j * 7, none⟩ = some (.int .i64 z0) at x0
            change w2.cell? ⟨b, off + j * 7 + 1, none⟩ = some (.int .i64 z1) at x1
            change w2.cell? ⟨b, off + j * 7 + 2, none⟩ = some (.int .i64 z2) at x2
            change w2.cell? ⟨b, off + j * 7 + 3, none⟩ = some (.bool false) at x3
            change w2.cell? ⟨b, off + j * 7 + 4, none⟩ = some (.bool z4) at x4
            change w2.cell? ⟨b, off + j * 7 + 5, none⟩ = some (.bool z5) at x5
            change w2.cell? ⟨b, off + j * 7 + 6, none⟩ = some (.string z6) at x6
            have hb2l : b < w2.drew.heap.size := hb3
            clear hb3
            obtain ⟨b3, off3, hA3, hb3, ⟨y0, y1, y2, y3, y4, y5, y6⟩⟩ := dats_elem HS2.out HD.out
            injection hA3 with hA3; injection hA3 with hb3' ho3; subst hb3' ho3
            change w2.cell? ⟨b, off + k * 7, none⟩ = some (.int .i64 d0) at y0
            change w2.cell? ⟨b, off + k * 7 + 1, none⟩ = some (.int .i64 d1) at y1
            change w2.cell? ⟨b, off + k * 7 + 2, none⟩ = some (.int .i64 d2) at y2
            change w2.cell? ⟨b, off + k * 7 + 3, none⟩ = some (.bool d3) at y3
            change w2.cell? ⟨b, off + k * 7 + 4, none⟩ = some (.bool false) at y4
            change w2.cell? ⟨b, off + k * 7 + 5, none⟩ = some (.bool d5) at y5
            change w2.cell? ⟨b, off + k * 7 + 6, none⟩ = some (.string d6) at y6
            clear hb3
            refine wp_region_held_drew (S := fun w' => w'.cell? ⟨b, off + j * 7, none⟩ = some (.int .i64 z0) ∧ w'.cell? ⟨b, off + j * 7 + 1, none⟩ = some (.int .i64 z1) ∧ w'.cell? ⟨b, off + j * 7 + 2, none⟩ = some (.int .i64 z2) ∧ w'.cell? ⟨b, off + j * 7 + 3, none⟩ = some (.bool false) ∧ w'.cell? ⟨b, off + j * 7 + 4, none⟩ = some (.bool z4) ∧ w'.cell? ⟨b, off + j * 7 + 5, none⟩ = some (.bool z5) ∧ w'.cell? ⟨b, off + j * 7 + 6, none⟩ = some (.string z6) ∧ w'.cell? ⟨b, off + k * 7, none⟩ = some (.int .i64 d0) ∧ w'.cell? ⟨b, off + k * 7 + 1, none⟩ = some (.int .i64 d1) ∧ w'.cell? ⟨b, off + k * 7 + 2, none⟩ = some (.int .i64 d2) ∧ w'.cell? ⟨b, off + k * 7 + 3, none⟩ = some (.bool d3) ∧ w'.cell? ⟨b, off + k * 7 + 4, none⟩ = some (.bool false) ∧ w'.cell? ⟨b, off + k * 7 + 5, none⟩ = some (.bool d5) ∧ w'.cell? ⟨b, off + k * 7 + 6, none⟩ = some (.string d6)) (by kernel_rfl) (by first | exact ⟨x0, x1, x2, x3, x4, x5, x6, y0, y1, y2, y3, y4, y5, y6⟩ | exact ⟨u0, u1, u2, u3, u4, u5, u6, v0, v1, v2, v3, v4, v5, v6⟩ | go_keep) (fun hHeld => ?_)
            refine wpAnyH_take (i := 0) (oi := ⟨some 29, _, _, _, _, _⟩) (v := ?_) rfl (by kernel_rfl) (by kernel_rfl) (by kernel_rfl) (fun _ _ _ h => h) (Or.inl ⟨by kernel_rfl, ?y18⟩) (by assumption) ?_
            case y18 => (intro w hSw; (try dsimp only at hSw); first | (go_simp; done) | (go_simp; with_reducible rfl))
            simp only [Act.put, List.setIfInBounds_toArray, List.set_cons_zero, List.set_cons_succ]
            refine wpAnyH_take (i := 1) (oi := ⟨some 30, _, _, _, _, _⟩) (v := ?_) rfl (by kernel_rfl) (by kernel_rfl) (by kernel_rfl) (fun _ _ _ h => h) (Or.inl ⟨by kernel_rfl, ?y19⟩) (by assumption) ?_
            case y19 => (intro w hSw; (try dsimp only at hSw); first | (go_simp; done) | (go_simp; with_reducible rfl))
            simp only [Act.put, List.setIfInBounds_toArray, List.set_cons_zero, List.set_cons_succ]
            refine wpAnyH_take (i := 2) (oi := ⟨some 31, _, _, _, _, _⟩) (v := ?_) rfl (by kernel_rfl) (by kernel_rfl) (by kernel_rfl) (fun _ _ _ h => h) (Or.inl ⟨by kernel_rfl, ?y20⟩) (by assumption) ?_
            case y20 => (intro w hSw; (try dsimp only at hSw); first | (go_simp; done) | (go_simp; with_reducible rfl))
            simp only [Act.put, List.setIfInBounds_toArray, List.set_cons_zero, List.set_cons_succ]
            refine wpAnyH_take (i := 3) (oi := ⟨some 32, _, _, _, _, _⟩) (v := ?_) rfl (by kernel_rfl) (by kernel_rfl) (by kernel_rfl) (fun _ _ _ h => h) (Or.inl ⟨by kernel_rfl, ?y21⟩) (by assumption) ?_
            case y21 => (intro w hSw; (try dsimp only at hSw); first | (go_simp; done) | (go_simp; with_reducible rfl))
            simp only [Act.put, List.setIfInBounds_toArray, List.set_cons_zero, List.set_cons_succ]
            refine wpAnyH_take (i := 4) (oi := ⟨some 33, _, _, _, _, _⟩) (v := ?_) rfl (by kernel_rfl) (by kernel_rfl) (by kernel_rfl) (fun _ _ _ h => h) (Or.inl ⟨by kernel_rfl, ?y22⟩) (by assumption) ?_
            case y22 => (intro w hSw; (try dsimp only at hSw); first | (go_simp; done) | (go_simp; with_reducible rfl))
            simp only [Act.put, List.setIfInBounds_toArray, List.set_cons_zero, List.set_cons_succ]
            refine wpAnyH_take (i := 5) (oi := ⟨some 34, _, _, _, _, _⟩) (v := ?_) rfl (by kernel_rfl) (by kernel_rfl) (by kernel_rfl) (fun _ _ _ h => h) (Or.inl ⟨by kernel_rfl, ?y23⟩) (by assumption) ?_
            case y23 => (intro w hSw; (try dsimp only at hSw); first | (go_simp; done) | (go_simp; with_reducible rfl))
            simp only [Act.put, List.setIfInBounds_toArray, List.set_cons_zero, List.set_cons_succ]
            refine wpAnyH_take (i := 6) (oi := ⟨some 35, _, _, _, _, _⟩) (v := ?_) rfl (by kernel_rfl) (by kernel_rfl) (by kernel_rfl) (fun _ _ _ h => h) (Or.inl ⟨by kernel_rfl, ?y24⟩) (by assumption) ?_
            case y24 => (intro w hSw; (try dsimp only at hSw); first | (go_simp; done) | (go_simp; with_reducible rfl))
            simp only [Act.put, List.setIfInBounds_toArray, List.set_cons_zero, List.set_cons_succ]
            refine wpAnyH_take (i := 7) (oi := ⟨some 36, _, _, _, _, _⟩) (v := ?_) rfl (by kernel_rfl) (by kernel_rfl) (by kernel_rfl) (fun _ _ _ h => h) (Or.inl ⟨by kernel_rfl, ?y25⟩) (by assumption) ?_
            case y25 => (intro w hSw; (try dsimp only at hSw); first | (go_simp; done) | (go_simp; with_reducible rfl))
            simp only [Act.put, List.setIfInBounds_toArray, List.set_cons_zero, List.set_cons_succ]
            refine wpAnyH_take (i := 8) (oi := ⟨some 37, _, _, _, _, _⟩) (v := ?_) rfl (by kernel_rfl) (by kernel_rfl) (by kernel_rfl) (fun _ _ _ h => h) (Or.inl ⟨by kernel_rfl, ?y26⟩) (by assumption) ?_
            case y26 => (intro w hSw; (try dsimp only at hSw); first | (go_simp; done) | (go_simp; with_reducible rfl))
            simp only [Act.put, List.setIfInBounds_toArray, List.set_cons_zero, List.set_cons_succ]
            refine wpAnyH_take (i := 9) (oi := ⟨some 38, _, _, _, _, _⟩) (v := ?_) rfl (by kernel_rfl) (by kernel_rfl) (by kernel_rfl) (fun _ _ _ h => h) (Or.inl ⟨by kernel_rfl, ?y27⟩) (by assumption) ?_
            case y27 => (intro w hSw; (try dsimp only at hSw); first | (go_simp; done) | (go_simp; with_reducible rfl))
            simp only [Act.put, List.setIfInBounds_toArray, List.set_cons_zero, List.set_cons_succ]
            refine wpAnyH_take (i := 10) (oi := ⟨some 39, _, _, _, _, _⟩) (v := ?_) rfl (by kernel_rfl) (by kernel_rfl) (by kernel_rfl) (fun _ _ _ h => h) (Or.inl ⟨by kernel_rfl, ?y28⟩) (by assumption) ?_
            case y28 => (intro w hSw; (try dsimp only at hSw); first | (go_simp; done) | (go_simp; with_reducible rfl))
            simp only [Act.put, List.setIfInBounds_toArray, List.set_cons_zero, List.set_cons_succ]
            refine wpAnyH_take (i := 11) (oi := ⟨some 40, _, _, _, _, _⟩) (v := ?_) rfl (by kernel_rfl) (by kernel_rfl) (by kernel_rfl) (fun _ _ _ h => h) (Or.inl ⟨by kernel_rfl, ?y29⟩) (by assumption) ?_
            case y29 => (intro w hSw; (try dsimp only at hSw); first | (go_simp; done) | (go_simp; with_reducible rfl))
            simp only [Act.put, List.setIfInBounds_toArray, List.set_cons_zero, List.set_cons_succ]
            refine wpAnyH_take (i := 12) (oi := ⟨some 41, _, _, _, _, _⟩) (v := ?_) rfl (by kernel_rfl) (by kernel_rfl) (by kernel_rfl) (fun _ _ _ h => h) (Or.inl ⟨by kernel_rfl, ?y30⟩) (by assumption) ?_
            case y30 => (intro w hSw; (try dsimp only at hSw); first | (go_simp; done) | (go_simp; with_reducible rfl))
            simp only [Act.put, List.setIfInBounds_toArray, List.set_cons_zero, List.set_cons_succ]
            refine wpAnyH_take (i := 13) (oi := ⟨some 42, _, _, _, _, _⟩) (v := ?_) rfl (by kernel_rfl) (by kernel_rfl) (by kernel_rfl) (fun _ _ _ h => h) (Or.inl ⟨by kernel_rfl, ?y31⟩) (by assumption) ?_
            case y31 => (intro w hSw; (try dsimp only at hSw); first | (go_simp; done) | (go_simp; with_reducible rfl))
            simp only [Act.put, List.setIfInBounds_toArray, List.set_cons_zero, List.set_cons_succ]
            refine wpAnyH_take (i := 14) (oi := ⟨some 43, _, _, _, _, _⟩) (v := ?_) rfl (by kernel_rfl) (by kernel_rfl) (by kernel_rfl) (fun _ _ _ h => h) (Or.inl ⟨by kernel_rfl, ?y32⟩) (by assumption) ?_
            case y32 => (intro w hSw; (try dsimp only at hSw); first | (go_simp; done) | (go_simp; with_reducible rfl))
            simp only [Act.put, List.setIfInBounds_toArray, List.set_cons_zero, List.set_cons_succ]
            refine wpAnyH_take (i := 15) (oi := ⟨some 44, _, _, _, _, _⟩) (v := ?_) rfl (by kernel_rfl) (by kernel_rfl) (by kernel_rfl) (fun _ _ _ h => h) (Or.inl ⟨by kernel_rfl, ?y33⟩) (by assumption) ?_
            case y33 => (intro w hSw; (try dsimp only at hSw); first | (go_simp; done) | (go_simp; with_reducible rfl))
            simp only [Act.put, List.setIfInBounds_toArray, List.set_cons_zero, List.set_cons_succ]
            refine wpAnyH_take (i := 16) (oi := ⟨some 45, _, _, _, _, _⟩) (v := ?_) rfl (by kernel_rfl) (by kernel_rfl) (by kernel_rfl) (fun _ _ _ h => h) (Or.inl ⟨by kernel_rfl, ?y34⟩) (by assumption) ?_
            case y34 => (intro w hSw; (try dsimp only at hSw); first | (go_simp; done) | (go_simp; with_reducible rfl))
            simp only [Act.put, List.setIfInBounds_toArray, List.set_cons_zero, List.set_cons_succ]
            refine wpAnyH_take (i := 17) (oi := ⟨some 46, _, _, _, _, _⟩) (v := ?_) rfl (by kernel_rfl) (by kernel_rfl) (by kernel_rfl) (fun _ _ _ h => h) (Or.inl ⟨by kernel_rfl, ?y35⟩) (by assumption) ?_
            case y35 => (intro w hSw; (try dsimp only at hSw); first | (go_simp; done) | (go_simp; with_reducible rfl))
            simp only [Act.put, List.setIfInBounds_toArray, List.set_cons_zero, List.set_cons_succ]
            refine wpAnyH_ready (rs := [18]) (by kernel_rfl) (by simp) ?_
            refine AllReadyH.cons (o := ⟨some 47, _, _, _, _, _⟩) rfl (fun K hK => ?_) AllReadyH.nil
            go_simp
            (go_at_call 65; (with_reducible refine (ilike_any HL.out _).mono ?_); rintro e w5 ⟨rfl, b5⟩; have B5 := Lib.hid (bstep B2.out.drew b5 B2.out.size); have O5 := Lib.hid (O2.out.drew.below b5 (Nat.le_refl _)); have c5 := (bcell b5).1; have u0 := (c5 b (off + j * 7) hb2l).trans x0; have u1 := (c5 b (off + j * 7 + 1) hb2l).trans x1; have u2 := (c5 b (off + j * 7 + 2) hb2l).trans x2; have u3 := (c5 b (off + j * 7 + 3) hb2l).trans x3; have u4 := (c5 b (off + j * 7 + 4) hb2l).trans x4; have u5 := (c5 b (off + j * 7 + 5) hb2l).trans x5; have u6 := (c5 b (off + j * 7 + 6) hb2l).trans x6; have v0 := (c5 b (off + k * 7) hb2l).trans y0; have v1 := (c5 b (off + k * 7 + 1) hb2l).trans y1; have v2 := (c5 b (off + k * 7 + 2) hb2l).trans y2; have v3 := (c5 b (off + k * 7 + 3) hb2l).trans y3; have v4 := (c5 b (off + k * 7 + 4) hb2l).trans y4; have v5 := (c5 b (off + k * 7 + 5) hb2l).trans y5; have v6 := (c5 b (off + k * 7 + 6) hb2l).trans y6; clear c5 b5)
            first | go_wp2_with fail | skip
            refine hK.out _ _ (by first | exact ⟨x0, x1, x2, x3, x4, x5, x6, y0, y1, y2, y3, y4, y5, y6⟩ | exact ⟨u0, u1, u2, u3, u4, u5, u6, v0, v1, v2, v3, v4, v5, v6⟩ | go_keep) (fun hHeld => ?_)
            clear hK K
            try simp only [Act.put, List.setIfInBounds_toArray, List.set_cons_zero, List.set_cons_succ]
            refine wpAnyH_take (i := 19) (oi := ⟨some 48, _, _, _, _, _⟩) (v := ?_) rfl (by kernel_rfl) (by kernel_rfl) (by kernel_rfl) (fun _ _ _ h => h) (Or.inl ⟨by kernel_rfl, ?y36⟩) (by assumption) ?_
            case y36 => (intro w hSw; (try dsimp only at hSw); first | (go_simp; done) | (go_simp; with_reducible rfl))
            simp only [Act.put, List.setIfInBounds_toArray, List.set_cons_zero, List.set_cons_succ]
            refine wpAnyH_take (i := 20) (oi := ⟨some 49, _, _, _, _, _⟩) (v := ?_) rfl (by kernel_rfl) (by kernel_rfl) (by kernel_rfl) (fun _ _ _ h => h) (Or.inl ⟨by kernel_rfl, ?y37⟩) (by assumption) ?_
            case y37 => (intro w hSw; (try dsimp only at hSw); first | (go_simp; done) | (go_simp; with_reducible rfl))
            simp only [Act.put, List.setIfInBounds_toArray, List.set_cons_zero, List.set_cons_succ]
            refine wpAnyH_done (by kernel_rfl) ?_ _
            go_wp2
            go_ret
            exact ⟨none, 0, 0, rfl, by rw [← HE.out]; rfl, fun _ _ => ⟨rfl, rfl⟩, by rw [← HE.out]; exact Own.nil _ _ _ _, B5.out⟩
          | true =>
            have HE := Lib.hid ((chain_step HD.out rfl HA.out HZ.out (by simp [HL.out])).symm.trans hE.out)
            clear hE
            have hq2 : q + 1 ≤ 13 := by have h1 := good_len HG2.out (by rw [List.length_append, hal.out]; simp; omega); rw [List.length_append, hal.out, HN.out] at h1; simp at h1; omega
            go_wp2_with fail
            refine (iadd_any _ _ _).mono ?_
            rintro e w1 ⟨rfl, rfl⟩
            go_wp2_with fail
            refine (ipart_eq ha _ HSr.out HN.out (by omega)).mono ?_
            rintro e w2 ⟨rfl, b2⟩
            have hszr := B.out.size
            have B2 := Lib.hid (bstep B.out b2 hszr)
            have O2 := Lib.hid (O.out.below b2 (Nat.le_refl _))
            have HS2 := Lib.hid (HSr.out.below b2 (Nat.le_refl _) |>.more b2.size)
            clear b2 e0 e1 e2 e3 e4 e5 e6
            go_wp2
            obtain ⟨b3, off3, hA3, hb3, ⟨x0, x1, x2, x3, x4, x5, x6⟩⟩ := dats_elem HS2.out HZ.out
            injection hA3 with hA3; injection hA3 with hb3' ho3; subst hb3' ho3
            change w2.cell? ⟨b, off + j * 7, none⟩ = some (.int .i64 z0) at x0
            change w2.cell? ⟨b, off + j * 7 + 1, none⟩ = some (.int .i64 z1) at x1
            change w2.cell? ⟨b, off + j * 7 + 2, none⟩ = some (.int .i64 z2) at x2
            change w2.cell? ⟨b, off + j * 7 + 3, none⟩ = some (.bool false) at x3
            change w2.cell? ⟨b, off + j * 7 + 4, none⟩ = some (.bool z4) at x4
            change w2.cell? ⟨b, off + j * 7 + 5, none⟩ = some (.bool z5) at x5
            change w2.cell? ⟨b, off + j * 7 + 6, none⟩ = some (.string z6) at x6
            have hb2l : b < w2.drew.heap.size := hb3
            clear hb3
            obtain ⟨b3, off3, hA3, hb3, ⟨y0, y1, y2, y3, y4, y5, y6⟩⟩ := dats_elem HS2.out HD.out
            injection hA3 with hA3; injection hA3 with hb3' ho3; subst hb3' ho3
            change w2.cell? ⟨b, off + k * 7, none⟩ = some (.int .i64 d0) at y0
            change w2.cell? ⟨b, off + k * 7 + 1, none⟩ = some (.int .i64 d1) at y1
            change w2.cell? ⟨b, off + k * 7 + 2, none⟩ = some (.int .i64 d2) at y2
            change w2.cell? ⟨b, off + k * 7 + 3, none⟩ = some (.bool d3) at y3
            change w2.cell? ⟨b, off + k * 7 + 4, none⟩ = some (.bool false) at y4
            change w2.cell? ⟨b, off + k * 7 + 5, none⟩ = some (.bool d5) at y5
            change w2.cell? ⟨b, off + k * 7 + 6, none⟩ = some (.string d6) at y6
            clear hb3
            refine wp_region_held_drew (S := fun w' => w'.cell? ⟨b, off + j * 7, none⟩ = some (.int .i64 z0) ∧ w'.cell? ⟨b, off + j * 7 + 1, none⟩ = some (.int .i64 z1) ∧ w'.cell? ⟨b, off + j * 7 + 2, none⟩ = some (.int .i64 z2) ∧ w'.cell? ⟨b, off + j * 7 + 3, none⟩ = some (.bool false) ∧ w'.cell? ⟨b, off + j * 7 + 4, none⟩ = some (.bool z4) ∧ w'.cell? ⟨b, off + j * 7 + 5, none⟩ = some (.bool z5) ∧ w'.cell? ⟨b, off + j * 7 + 6, none⟩ = some (.string z6) ∧ w'.cell? ⟨b, off + k * 7, none⟩ = some (.int .i64 d0) ∧ w'.cell? ⟨b, off + k * 7 + 1, none⟩ = some (.int .i64 d1) ∧ w'.cell? ⟨b, off + k * 7 + 2, none⟩ = some (.int .i64 d2) ∧ w'.cell? ⟨b, off + k * 7 + 3, none⟩ = some (.bool d3) ∧ w'.cell? ⟨b, off + k * 7 + 4, none⟩ = some (.bool false) ∧ w'.cell? ⟨b, off + k * 7 + 5, none⟩ = some (.bool d5) ∧ w'.cell? ⟨b, off + k * 7 + 6, none⟩ = some (.string d6)) (by kernel_rfl) (by first | exact ⟨x0, x1, x2, x3, x4, x5, x6, y0, y1, y2, y3, y4, y5, y6⟩ | exact ⟨u0, u1, u2, u3, u4, u5, u6, v0, v1, v2, v3, v4, v5, v6⟩ | go_keep) (fun hHeld => ?_)
            refine wpAnyH_take (i := 0) (oi := ⟨some 29, _, _, _, _, _⟩) (v := ?_) rfl (by kernel_rfl) (by kernel_rfl) (by kernel_rfl) (fun _ _ _ h => h) (Or.inl ⟨by kernel_rfl, ?y38⟩) (by assumption) ?_
            case y38 => (intro w hSw; (try dsimp only at hSw); first | (go_simp; done) | (go_simp; with_reducible rfl))
            simp only [Act.put, List.setIfInBounds_toArray, List.set_cons_zero, List.set_cons_succ]
            refine wpAnyH_take (i := 1) (oi := ⟨some 30, _, _, _, _, _⟩) (v := ?_) rfl (by kernel_rfl) (by kernel_rfl) (by kernel_rfl) (fun _ _ _ h => h) (Or.inl ⟨by kernel_rfl, ?y39⟩) (by assumption) ?_
            case y39 => (intro w hSw; (try dsimp only at hSw); first | (go_simp; done) | (go_simp; with_reducible rfl))
            simp only [Act.put, List.setIfInBounds_toArray, List.set_cons_zero, List.set_cons_succ]
            refine wpAnyH_take (i := 2) (oi := ⟨some 31, _, _, _, _, _⟩) (v := ?_) rfl (by kernel_rfl) (by kernel_rfl) (by kernel_rfl) (fun _ _ _ h => h) (Or.inl ⟨by kernel_rfl, ?y40⟩) (by assumption) ?_
            case y40 => (intro w hSw; (try dsimp only at hSw); first | (go_simp; done) | (go_simp; with_reducible rfl))
            simp only [Act.put, List.setIfInBounds_toArray, List.set_cons_zero, List.set_cons_succ]
            refine wpAnyH_take (i := 3) (oi := ⟨some 32, _, _, _, _, _⟩) (v := ?_) rfl (by kernel_rfl) (by kernel_rfl) (by kernel_rfl) (fun _ _ _ h => h) (Or.inl ⟨by kernel_rfl, ?y41⟩) (by assumption) ?_
            case y41 => (intro w hSw; (try dsimp only at hSw); first | (go_simp; done) | (go_simp; with_reducible rfl))
            simp only [Act.put, List.setIfInBounds_toArray, List.set_cons_zero, List.set_cons_succ]
            refine wpAnyH_take (i := 4) (oi := ⟨some 33, _, _, _, _, _⟩) (v := ?_) rfl (by kernel_rfl) (by kernel_rfl) (by kernel_rfl) (fun _ _ _ h => h) (Or.inl ⟨by kernel_rfl, ?y42⟩) (by assumption) ?_
            case y42 => (intro w hSw; (try dsimp only at hSw); first | (go_simp; done) | (go_simp; with_reducible rfl))
            simp only [Act.put, List.setIfInBounds_toArray, List.set_cons_zero, List.set_cons_succ]
            refine wpAnyH_take (i := 5) (oi := ⟨some 34, _, _, _, _, _⟩) (v := ?_) rfl (by kernel_rfl) (by kernel_rfl) (by kernel_rfl) (fun _ _ _ h => h) (Or.inl ⟨by kernel_rfl, ?y43⟩) (by assumption) ?_
            case y43 => (intro w hSw; (try dsimp only at hSw); first | (go_simp; done) | (go_simp; with_reducible rfl))
            simp only [Act.put, List.setIfInBounds_toArray, List.set_cons_zero, List.set_cons_succ]
            refine wpAnyH_take (i := 6) (oi := ⟨some 35, _, _, _, _, _⟩) (v := ?_) rfl (by kernel_rfl) (by kernel_rfl) (by kernel_rfl) (fun _ _ _ h => h) (Or.inl ⟨by kernel_rfl, ?y44⟩) (by assumption) ?_
            case y44 => (intro w hSw; (try dsimp only at hSw); first | (go_simp; done) | (go_simp; with_reducible rfl))
            simp only [Act.put, List.setIfInBounds_toArray, List.set_cons_zero, List.set_cons_succ]
            refine wpAnyH_take (i := 7) (oi := ⟨some 36, _, _, _, _, _⟩) (v := ?_) rfl (by kernel_rfl) (by kernel_rfl) (by kernel_rfl) (fun _ _ _ h => h) (Or.inl ⟨by kernel_rfl, ?y45⟩) (by assumption) ?_
            case y45 => (intro w hSw; (try dsimp only at hSw); first | (go_simp; done) | (go_simp; with_reducible rfl))
            simp only [Act.put, List.setIfInBounds_toArray, List.set_cons_zero, List.set_cons_succ]
            refine wpAnyH_take (i := 8) (oi := ⟨some 37, _, _, _, _, _⟩) (v := ?_) rfl (by kernel_rfl) (by kernel_rfl) (by kernel_rfl) (fun _ _ _ h => h) (Or.inl ⟨by kernel_rfl, ?y46⟩) (by assumption) ?_
            case y46 => (intro w hSw; (try dsimp only at hSw); first | (go_simp; done) | (go_simp; with_reducible rfl))
            simp only [Act.put, List.setIfInBounds_toArray, List.set_cons_zero, List.set_cons_succ]
            refine wpAnyH_take (i := 9) (oi := ⟨some 38, _, _, _, _, _⟩) (v := ?_) rfl (by kernel_rfl) (by kernel_rfl) (by kernel_rfl) (fun _ _ _ h => h) (Or.inl ⟨by kernel_rfl, ?y47⟩) (by assumption) ?_
            case y47 => (intro w hSw; (try dsimp only at hSw); first | (go_simp; done) | (go_simp; with_reducible rfl))
            simp only [Act.put, List.setIfInBounds_toArray, List.set_cons_zero, List.set_cons_succ]
            refine wpAnyH_take (i := 10) (oi := ⟨some 39, _, _, _, _, _⟩) (v := ?_) rfl (by kernel_rfl) (by kernel_rfl) (by kernel_rfl) (fun _ _ _ h => h) (Or.inl ⟨by kernel_rfl, ?y48⟩) (by assumption) ?_
            case y48 => (intro w hSw; (try dsimp only at hSw); first | (go_simp; done) | (go_simp; with_reducible rfl))
            simp only [Act.put, List.setIfInBounds_toArray, List.set_cons_zero, List.set_cons_succ]
            refine wpAnyH_take (i := 11) (oi := ⟨some 40, _, _, _, _, _⟩) (v := ?_) rfl (by kernel_rfl) (by kernel_rfl) (by kernel_rfl) (fun _ _ _ h => h) (Or.inl ⟨by kernel_rfl, ?y49⟩) (by assumption) ?_
            case y49 => (intro w hSw; (try dsimp only at hSw); first | (go_simp; done) | (go_simp; with_reducible rfl))
            simp only [Act.put, List.setIfInBounds_toArray, List.set_cons_zero, List.set_cons_succ]
            refine wpAnyH_take (i := 12) (oi := ⟨some 41, _, _, _, _, _⟩) (v := ?_) rfl (by kernel_rfl) (by kernel_rfl) (by kernel_rfl) (fun _ _ _ h => h) (Or.inl ⟨by kernel_rfl, ?y50⟩) (by assumption) ?_
            case y50 => (intro w hSw; (try dsimp only at hSw); first | (go_simp; done) | (go_simp; with_reducible rfl))
            simp only [Act.put, List.setIfInBounds_toArray, List.set_cons_zero, List.set_cons_succ]
            refine wpAnyH_take (i := 13) (oi := ⟨some 42, _, _, _, _, _⟩) (v := ?_) rfl (by kernel_rfl) (by kernel_rfl) (by kernel_rfl) (fun _ _ _ h => h) (Or.inl ⟨by kernel_rfl, ?y51⟩) (by assumption) ?_
            case y51 => (intro w hSw; (try dsimp only at hSw); first | (go_simp; done) | (go_simp; with_reducible rfl))
            simp only [Act.put, List.setIfInBounds_toArray, List.set_cons_zero, List.set_cons_succ]
            refine wpAnyH_take (i := 14) (oi := ⟨some 43, _, _, _, _, _⟩) (v := ?_) rfl (by kernel_rfl) (by kernel_rfl) (by kernel_rfl) (fun _ _ _ h => h) (Or.inl ⟨by kernel_rfl, ?y52⟩) (by assumption) ?_
            case y52 => (intro w hSw; (try dsimp only at hSw); first | (go_simp; done) | (go_simp; with_reducible rfl))
            simp only [Act.put, List.setIfInBounds_toArray, List.set_cons_zero, List.set_cons_succ]
            refine wpAnyH_take (i := 15) (oi := ⟨some 44, _, _, _, _, _⟩) (v := ?_) rfl (by kernel_rfl) (by kernel_rfl) (by kernel_rfl) (fun _ _ _ h => h) (Or.inl ⟨by kernel_rfl, ?y53⟩) (by assumption) ?_
            case y53 => (intro w hSw; (try dsimp only at hSw); first | (go_simp; done) | (go_simp; with_reducible rfl))
            simp only [Act.put, List.setIfInBounds_toArray, List.set_cons_zero, List.set_cons_succ]
            refine wpAnyH_take (i := 16) (oi := ⟨some 45, _, _, _, _, _⟩) (v := ?_) rfl (by kernel_rfl) (by kernel_rfl) (by kernel_rfl) (fun _ _ _ h => h) (Or.inl ⟨by kernel_rfl, ?y54⟩) (by assumption) ?_
            case y54 => (intro w hSw; (try dsimp only at hSw); first | (go_simp; done) | (go_simp; with_reducible rfl))
            simp only [Act.put, List.setIfInBounds_toArray, List.set_cons_zero, List.set_cons_succ]
            refine wpAnyH_take (i := 17) (oi := ⟨some 46, _, _, _, _, _⟩) (v := ?_) rfl (by kernel_rfl) (by kernel_rfl) (by kernel_rfl) (fun _ _ _ h => h) (Or.inl ⟨by kernel_rfl, ?y55⟩) (by assumption) ?_
            case y55 => (intro w hSw; (try dsimp only at hSw); first | (go_simp; done) | (go_simp; with_reducible rfl))
            simp only [Act.put, List.setIfInBounds_toArray, List.set_cons_zero, List.set_cons_succ]
            refine wpAnyH_ready (rs := [18]) (by kernel_rfl) (by simp) ?_
            refine AllReadyH.cons (o := ⟨some 47, _, _, _, _, _⟩) rfl (fun K hK => ?_) AllReadyH.nil
            go_simp
            (go_at_call 65; (with_reducible refine (ilike_any HL.out _).mono ?_); rintro e w5 ⟨rfl, b5⟩; have B5 := Lib.hid (bstep B2.out.drew b5 B2.out.size); have O5 := Lib.hid (O2.out.drew.below b5 (Nat.le_refl _)); have c5 := (bcell b5).1; have u0 := (c5 b (off + j * 7) hb2l).trans x0; have u1 := (c5 b (off + j * 7 + 1) hb2l).trans x1; have u2 := (c5 b (off + j * 7 + 2) hb2l).trans x2; have u3 := (c5 b (off + j * 7 + 3) hb2l).trans x3; have u4 := (c5 b (off + j * 7 + 4) hb2l).trans x4; have u5 := (c5 b (off + j * 7 + 5) hb2l).trans x5; have u6 := (c5 b (off + j * 7 + 6) hb2l).trans x6; have v0 := (c5 b (off + k * 7) hb2l).trans y0; have v1 := (c5 b (off + k * 7 + 1) hb2l).trans y1; have v2 := (c5 b (off + k * 7 + 2) hb2l).trans y2; have v3 := (c5 b (off + k * 7 + 3) hb2l).trans y3; have v4 := (c5 b (off + k * 7 + 4) hb2l).trans y4; have v5 := (c5 b (off + k * 7 + 5) hb2l).trans y5; have v6 := (c5 b (off + k * 7 + 6) hb2l).trans y6; clear c5 b5)
            first | go_wp2_with fail | skip
            refine hK.out _ _ (by first | exact ⟨x0, x1, x2, x3, x4, x5, x6, y0, y1, y2, y3, y4, y5, y6⟩ | exact ⟨u0, u1, u2, u3, u4, u5, u6, v0, v1, v2, v3, v4, v5, v6⟩ | go_keep) (fun hHeld => ?_)
            clear hK K
            try simp only [Act.put, List.setIfInBounds_toArray, List.set_cons_zero, List.set_cons_succ]
            refine wpAnyH_take (i := 19) (oi := ⟨some 48, _, _, _, _, _⟩) (v := ?_) rfl (by kernel_rfl) (by kernel_rfl) (by kernel_rfl) (fun _ _ _ h => h) (Or.inl ⟨by kernel_rfl, ?y56⟩) (by assumption) ?_
            case y56 => (intro w hSw; (try dsimp only at hSw); first | (go_simp; done) | (go_simp; with_reducible rfl))
            simp only [Act.put, List.setIfInBounds_toArray, List.set_cons_zero, List.set_cons_succ]
            refine wpAnyH_take (i := 20) (oi := ⟨some 49, _, _, _, _, _⟩) (v := ?_) rfl (by kernel_rfl) (by kernel_rfl) (by kernel_rfl) (fun _ _ _ h => h) (Or.inl ⟨by kernel_rfl, ?y57⟩) (by assumption) ?_
            case y57 => (intro w hSw; (try dsimp only at hSw); first | (go_simp; done) | (go_simp; with_reducible rfl))
            simp only [Act.put, List.setIfInBounds_toArray, List.set_cons_zero, List.set_cons_succ]
            refine wpAnyH_done (by kernel_rfl) ?_ _
            clear x0 x1 x2 x3 x4 x5 x6 y0 y1 y2 y3 y4 y5 y6 u0 u1 u2 u3 u4 u5 u6 v0 v1 v2 v3 v4 v5 v6
            go_wp2_with (at_builtin; refine wpList_app _ rfl _ _ _ rfl w.heap.size 3 i0 (.int .i64 0) 1 8 Try.underlying33 hi hz0 hz1 hz2 rfl (by decide) A1 q c1 (nats acc) rfl (O5.out.alloc _) (w5.heap.size + 1) (some ⟨w5.heap.size, 0, none⟩) 1 1 (nats [j]) rfl (sl_new rfl) rfl (nats_one _) (by unfold maxLen; omega) (by omega) (by have := B5.out.size; simp; omega) ?_; intro A3 c3 row w3 o3 g3 r3 d3; rw [← nats_app] at o3; have O3 := Lib.hid o3; have B3 := Lib.hid (below_at (B5.out.alloc B5.out.size _) (by have := B5.out.size; simp; omega) g3 r3 (fun a ha => (O5.out.blk a ha).1)); clear o3 g3 r3 d3)
            go_roundw
            case rel => exact ⟨f, j, q + 1, acc ++ [j], A3, c3, rfl, rfl, Lib.hid (by rw [List.length_append, hal.out]; rfl), by omega, by omega, by omega, HE, HG2, O3.out, B3.out⟩
            case measure => simp [lenOf]; omega
set_option maxHeartbeats 6400000 in
set_option maxRecDepth 100000 in
theorem schain (A : Option Addr) (n c : Nat) (ps : List Dat) (k0 : Nat) {d : Dat} {R : List Nat} (hR : chainP ps k0 = R) (w : World) (hs : Sl w w.heap.size A (dats ps)) (hn : ps.length = n) (h13 : n ≤ 13) (hk : ps[k0]? = some d) (hok : okB d.tsn = true) :
    Calls Try.prog 57 #[.slice A n c, .int .i64 k0] w (ChainP false R w) := by
  obtain ⟨i0, hi, hz0, hz1, hz2⟩ := info_parts info_int'
  have HS := Lib.hid hs; have HN := Lib.hid hn; have HR := Lib.hid hR; clear hs hn hR
  have hkn : k0 < n := by rw [← HN.out]; exact (List.getElem?_eq_some_iff.1 hk).1
  have G0 := Lib.hid (good_start hk hok)
  obtain ⟨b, off, rfl, hbl, _⟩ := dats_elem HS.out hk
  clear hk hok
  go_enter Try.func57, Try.ntmps57
  go_wp2
  go_loopw [1, 5] (fun av ov wr => ∃ (f k q : Nat) (acc : List Nat) (A1 : Option Addr) (c1 : Nat), av = .int .i64 k ∧ ov = .slice A1 q c1 ∧ Hid (acc.length = q) ∧ f + q = 15 ∧ 0 < q ∧ q ≤ 13 ∧ Hid (chainA ps f k acc = R) ∧ Hid (Good ps k acc) ∧ Own wr w.heap.size 3 1 A1 q c1 (nats acc) ∧ Below w.heap.size w wr) (fun av ov _ => 14 - lenOf ov)
  case atStart =>
    refine ⟨14, k0, 1, [k0], some ⟨w.heap.size, 0, none⟩, 1, rfl, rfl, Lib.hid rfl, by omega, by omega, by omega, HR, G0, ?_, by go_grown⟩
    exact ⟨rfl, .inr ⟨w.heap.size, 1, #[.int .i64 (k0 : Int)], rfl, Nat.le_refl _, heap_alloc_new w _, Nat.le_refl _, by unfold maxLen; omega, rfl, rfl⟩⟩
  case round =>
    obtain ⟨f, k, q, acc, A1, c1, rfl, rfl, hal, hfq, hq0, hq, hE, hG, ho, hb⟩ := hrel
    have O := Lib.hid ho
    have B := Lib.hid hb
    clear ho hb
    obtain ⟨f, rfl⟩ : ∃ g, f = g + 1 := ⟨f - 1, by omega⟩
    obtain ⟨d, hd, hdk⟩ := good_in hG.out
    have hlt : k < n := by rw [← HN.out]; exact (List.getElem?_eq_some_iff.1 hd).1
    have hk0 : (0 : Int) ≤ (k : Int) := by omega
    have hkn : (k : Int) < (n : Int) := by omega
    have HSr := Lib.hid ((HS.out.below B.out (Nat.le_refl _)).more B.out.size)
    obtain ⟨b2, off2, hA2, hbr, ⟨e0, e1, e2, e3, e4, e5, e6⟩⟩ := dats_elem HSr.out hd
    injection hA2 with hA2; injection hA2 with hb2 ho2; subst hb2 ho2
    have HD := Lib.hid hd
    clear hd
    obtain ⟨d0, d1, d2, d3, d4, d5, d6⟩ := d
    change okB d0 = true at hdk
    change World.cell? _ _ = some (.int .i64 d0) at e0
    change World.cell? _ _ = some (.int .i64 d1) at e1
    change World.cell? _ _ = some (.int .i64 d2) at e2
    change World.cell? _ _ = some (.bool d3) at e3
    change World.cell? _ _ = some (.bool d4) at e4
    change World.cell? _ _ = some (.bool d5) at e5
    change World.cell? _ _ = some (.string d6) at e6
    cases d4 with
    | true =>
      have HE := Lib.hid ((chain_last HD.out rfl).symm.trans hE.out)
      clear hE
      go_wp2
      go_ret
      exact ⟨A1, q, c1, rfl, by rw [← HE.out]; exact hal.out, (fun h => nomatch h), by rw [← HE.out]; exact O.out, B.out⟩
    | false =>
      rcases atK_cases (sadd d0 1) ps with ha | ⟨j, z, ha, hz, hzt⟩
      · obtain ⟨r, hr⟩ : ∃ r, atK (sadd d0 1) ps 0 = r := ⟨_, rfl⟩
        have HE := Lib.hid ((chain_none HD.out rfl ha).symm.trans hE.out)
        rw [hr] at ha
        clear hE
        have hneg : decide (r < 0) = true := decide_eq_true ha
        go_wp2_with fail
        refine (l3add_any _ _ hdk _).mono ?_
        rintro e w1 ⟨rfl, rfl⟩
        go_wp2_with fail
        refine (spart_eq hr _ HSr.out HN.out (by omega)).mono ?_
        rintro e w2 ⟨rfl, b2⟩
        have hszr := B.out.size
        have B2 := Lib.hid (bstep B.out b2 hszr)
        have O2 := Lib.hid (O.out.below b2 (Nat.le_refl _))
        have HS2 := Lib.hid (HSr.out.below b2 (Nat.le_refl _) |>.more b2.size)
        clear b2 e0 e1 e2 e3 e4 e5 e6
        go_wp2
        refine wp_region_held_drew (S := fun w' => True) (by kernel_rfl) (by first | exact trivial | go_keep) (fun hHeld => ?_)
        refine wpAnyH_take (i := 0) (oi := ⟨some 23, _, _, _, _, _⟩) (v := ?_) rfl (by kernel_rfl) (by kernel_rfl) (by kernel_rfl) (fun _ _ _ h => h) (Or.inl ⟨by kernel_rfl, ?y58⟩) (by assumption) ?_
        case y58 => (intro w hSw; (try dsimp only at hSw); first | (go_simp; done) | (go_simp; with_reducible rfl))
        simp only [Act.put, List.setIfInBounds_toArray, List.set_cons_zero, List.set_cons_succ]
        refine wpAnyH_take (i := 1) (oi := ⟨some 24, _, _, _, _, _⟩) (v := ?_) rfl (by kernel_rfl) (by kernel_rfl) (by kernel_rfl) (fun _ _ _ h => h) (Or.inl ⟨by kernel_rfl, ?y59⟩) (by assumption) ?_
        case y59 => (intro w hSw; (try dsimp only at hSw); first | (go_simp; done) | (go_simp; with_reducible rfl))
        simp only [Act.put, List.setIfInBounds_toArray, List.set_cons_zero, List.set_cons_succ]
        refine wpAnyH_take (i := 2) (oi := ⟨some 25, _, _, _, _, _⟩) (v := ?_) rfl (by kernel_rfl) (by kernel_rfl) (by kernel_rfl) (fun _ _ _ h => h) (Or.inl ⟨by kernel_rfl, ?y60⟩) (by assumption) ?_
        case y60 => (intro w hSw; (try dsimp only at hSw); first | (go_simp; done) | (go_simp; with_reducible rfl))
        simp only [Act.put, List.setIfInBounds_toArray, List.set_cons_zero, List.set_cons_succ]
        refine wpAnyH_take (i := 3) (oi := ⟨some 26, _, _, _, _, _⟩) (v := undef) rfl (by kernel_rfl) (by kernel_rfl) (by kernel_rfl) (fun _ _ _ h => h) (Or.inr ⟨by kernel_rfl, rfl⟩) (by assumption) ?_
        simp only [Act.put, List.setIfInBounds_toArray, List.set_cons_zero, List.set_cons_succ]
        refine wpAnyH_take (i := 4) (oi := ⟨some 27, _, _, _, _, _⟩) (v := undef) rfl (by kernel_rfl) (by kernel_rfl) (by kernel_rfl) (fun _ _ _ h => h) (Or.inr ⟨by kernel_rfl, rfl⟩) (by assumption) ?_
        simp only [Act.put, List.setIfInBounds_toArray, List.set_cons_zero, List.set_cons_succ]
        refine wpAnyH_take (i := 5) (oi := ⟨some 28, _, _, _, _, _⟩) (v := undef) rfl (by kernel_rfl) (by kernel_rfl) (by kernel_rfl) (fun _ _ _ h => h) (Or.inr ⟨by kernel_rfl, rfl⟩) (by assumption) ?_
        simp only [Act.put, List.setIfInBounds_toArray, List.set_cons_zero, List.set_cons_succ]
        refine wpAnyH_take (i := 6) (oi := ⟨some 29, _, _, _, _, _⟩) (v := undef) rfl (by kernel_rfl) (by kernel_rfl) (by kernel_rfl) (fun _ _ _ h => h) (Or.inr ⟨by kernel_rfl, rfl⟩) (by assumption) ?_
        simp only [Act.put, List.setIfInBounds_toArray, List.set_cons_zero, List.set_cons_succ]
        refine wpAnyH_take (i := 7) (oi := ⟨some 30, _, _, _, _, _⟩) (v := undef) rfl (by kernel_rfl) (by kernel_rfl) (by kernel_rfl) (fun _ _ _ h => h) (Or.inr ⟨by kernel_rfl, rfl⟩) (by assumption) ?_
        simp only [Act.put, List.setIfInBounds_toArray, List.set_cons_zero, List.set_cons_succ]
        refine wpAnyH_take (i := 8) (oi := ⟨some 31, _, _, _, _, _⟩) (v := ?_) rfl (by kernel_rfl) (by kernel_rfl) (by kernel_rfl) (fun _ _ _ h => h) (Or.inl ⟨by kernel_rfl, ?y61⟩) (by assumption) ?_
        case y61 => (intro w hSw; (try dsimp only at hSw); first | (go_simp; done) | (go_simp; with_reducible rfl))
        simp only [Act.put, List.setIfInBounds_toArray, List.set_cons_zero, List.set_cons_succ]
        refine wpAnyH_take (i := 9) (oi := ⟨some 32, _, _, _, _, _⟩) (v := ?_) rfl (by kernel_rfl) (by kernel_rfl) (by kernel_rfl) (fun _ _ _ h => h) (Or.inl ⟨by kernel_rfl, ?y62⟩) (by assumption) ?_
        case y62 => (intro w hSw; (try dsimp only at hSw); first | (go_simp; done) | (go_simp; with_reducible rfl))
        simp only [Act.put, List.setIfInBounds_toArray, List.set_cons_zero, List.set_cons_succ]
        refine wpAnyH_take (i := 10) (oi := ⟨some 33, _, _, _, _, _⟩) (v := undef) rfl (by kernel_rfl) (by kernel_rfl) (by kernel_rfl) (fun _ _ _ h => h) (Or.inr ⟨by kernel_rfl, rfl⟩) (by assumption) ?_
        simp only [Act.put, List.setIfInBounds_toArray, List.set_cons_zero, List.set_cons_succ]
        refine wpAnyH_take (i := 11) (oi := ⟨some 34, _, _, _, _, _⟩) (v := undef) rfl (by kernel_rfl) (by kernel_rfl) (by kernel_rfl) (fun _ _ _ h => h) (Or.inr ⟨by kernel_rfl, rfl⟩) (by assumption) ?_
        simp only [Act.put, List.setIfInBounds_toArray, List.set_cons_zero, List.set_cons_succ]
        refine wpAnyH_take (i := 12) (oi := ⟨some 35, _, _, _, _, _⟩) (v := undef) rfl (by kernel_rfl) (by kernel_rfl) (by kernel_rfl) (fun _ _ _ h => h) (Or.inr ⟨by kernel_rfl, rfl⟩) (by assumption) ?_
        simp only [Act.put, List.setIfInBounds_toArray, List.set_cons_zero, List.set_cons_succ]
        refine wpAnyH_take (i := 13) (oi := ⟨some 36, _, _, _, _, _⟩) (v := undef) rfl (by kernel_rfl) (by kernel_rfl) (by kernel_rfl) (fun _ _ _ h => h) (Or.inr ⟨by kernel_rfl, rfl⟩) (by assumption) ?_
        simp only [Act.put, List.setIfInBounds_toArray, List.set_cons_zero, List.set_cons_succ]
        refine wpAnyH_take (i := 14) (oi := ⟨some 37, _, _, _, _, _⟩) (v := undef) rfl (by kernel_rfl) (by kernel_rfl) (by kernel_rfl) (fun _ _ _ h => h) (Or.inr ⟨by kernel_rfl, rfl⟩) (by assumption) ?_
        simp only [Act.put, List.setIfInBounds_toArray, List.set_cons_zero, List.set_cons_succ]
        refine wpAnyH_take (i := 15) (oi := ⟨some 38, _, _, _, _, _⟩) (v := undef) rfl (by kernel_rfl) (by kernel_rfl) (by kernel_rfl) (fun _ _ _ h => h) (Or.inr ⟨by kernel_rfl, rfl⟩) (by assumption) ?_
        simp only [Act.put, List.setIfInBounds_toArray, List.set_cons_zero, List.set_cons_succ]
        refine wpAnyH_take (i := 16) (oi := ⟨some 39, _, _, _, _, _⟩) (v := undef) rfl (by kernel_rfl) (by kernel_rfl) (by kernel_rfl) (fun _ _ _ h => h) (Or.inr ⟨by kernel_rfl, rfl⟩) (by assumption) ?_
        simp only [Act.put, List.setIfInBounds_toArray, List.set_cons_zero, List.set_cons_succ]
        refine wpAnyH_take (i := 17) (oi := ⟨some 40, _, _, _, _, _⟩) (v := undef) rfl (by kernel_rfl) (by kernel_rfl) (by kernel_rfl) (fun _ _ _ h => h) (Or.inr ⟨by kernel_rfl, rfl⟩) (by assumption) ?_
        simp only [Act.put, List.setIfInBounds_toArray, List.set_cons_zero, List.set_cons_succ]
        refine wpAnyH_take (i := 18) (oi := ⟨some 41, _, _, _, _, _⟩) (v := undef) rfl (by kernel_rfl) (by kernel_rfl) (by kernel_rfl) (fun _ _ _ h => h) (Or.inr ⟨by kernel_rfl, rfl⟩) (by assumption) ?_
        simp only [Act.put, List.setIfInBounds_toArray, List.set_cons_zero, List.set_cons_succ]
        refine wpAnyH_take (i := 19) (oi := ⟨some 42, _, _, _, _, _⟩) (v := undef) rfl (by kernel_rfl) (by kernel_rfl) (by kernel_rfl) (fun _ _ _ h => h) (Or.inr ⟨by kernel_rfl, rfl⟩) (by assumption) ?_
        simp only [Act.put, List.setIfInBounds_toArray, List.set_cons_zero, List.set_cons_succ]
        refine wpAnyH_take (i := 20) (oi := ⟨some 43, _, _, _, _, _⟩) (v := ?_) rfl (by kernel_rfl) (by kernel_rfl) (by kernel_rfl) (fun _ _ _ h => h) (Or.inl ⟨by kernel_rfl, ?y63⟩) (by assumption) ?_
        case y63 => (intro w hSw; (try dsimp only at hSw); first | (go_simp; done) | (go_simp; with_reducible rfl))
        simp only [Act.put, List.setIfInBounds_toArray, List.set_cons_zero, List.set_cons_succ]
        refine wpAnyH_take (i := 21) (oi := ⟨some 44, _, _, _, _, _⟩) (v := ?_) rfl (by kernel_rfl) (by kernel_rfl) (by kernel_rfl) (fun _ _ _ h => h) (Or.inl ⟨by kernel_rfl, ?y64⟩) (by assumption) ?_
        case y64 => (intro w hSw; (try dsimp only at hSw); first | (go_simp; done) | (go_simp; with_reducible rfl))
        simp only [Act.put, List.setIfInBounds_toArray, List.set_cons_zero, List.set_cons_succ]
        refine wpAnyH_take (i := 22) (oi := ⟨some 45, _, _, _, _, _⟩) (v := undef) rfl (by kernel_rfl) (by kernel_rfl) (by kernel_rfl) (fun _ _ _ h => h) (Or.inr ⟨by kernel_rfl, rfl⟩) (by assumption) ?_
        simp only [Act.put, List.setIfInBounds_toArray, List.set_cons_zero, List.set_cons_succ]
        refine wpAnyH_take (i := 23) (oi := ⟨some 46, _, _, _, _, _⟩) (v := undef) rfl (by kernel_rfl) (by kernel_rfl) (by kernel_rfl) (fun _ _ _ h => h) (Or.inr ⟨by kernel_rfl, rfl⟩) (by assumption) ?_
        simp only [Act.put, List.setIfInBounds_toArray, List.set_cons_zero, List.set_cons_succ]
        refine wpAnyH_take (i := 24) (oi := ⟨some 47, _, _, _, _, _⟩) (v := undef) rfl (by kernel_rfl) (by kernel_rfl) (by kernel_rfl) (fun _ _ _ h => h) (Or.inr ⟨by kernel_rfl, rfl⟩) (by assumption) ?_
        simp only [Act.put, List.setIfInBounds_toArray, List.set_cons_zero, List.set_cons_succ]
        refine wpAnyH_take (i := 25) (oi := ⟨some 48, _, _, _, _, _⟩) (v := ?_) rfl (by kernel_rfl) (by kernel_rfl) (by kernel_rfl) (fun _ _ _ h => h) (Or.inl ⟨by kernel_rfl, ?y65⟩) (by assumption) ?_
        case y65 => (intro w hSw; (try dsimp only at hSw); first | (go_simp; done) | (go_simp; with_reducible rfl))
        simp only [Act.put, List.setIfInBounds_toArray, List.set_cons_zero, List.set_cons_succ]
        refine wpAnyH_done (by kernel_rfl) ?_ _
        go_wp2
        go_ret
        exact ⟨some ⟨w2.heap.size, 0, none⟩, 0, 0, rfl, by rw [← HE.out]; rfl, (fun h => nomatch h), by rw [← HE.out]; exact (Own.made w2 w2.heap.size 3 1 #[] 0 (Nat.le_refl _) (by unfold maxLen; omega) rfl).lower B2.out.size, (B2.out.alloc B2.out.size _).drew⟩
      · have hjl : j < n := by rw [← HN.out]; exact (List.getElem?_eq_some_iff.1 hz).1
        have hj0 : (0 : Int) ≤ (j : Int) := by omega
        have hjn : (j : Int) < (n : Int) := by omega
        have hneg : decide ((j : Int) < 0) = false := decide_eq_false (by omega)
        have hg2 := good_step hG.out HD.out hz hzt
        have HG2 := Lib.hid hg2
        have HZ := Lib.hid hz
        clear hz hzt hg2 hG
        obtain ⟨z0, z1, z2, z3, z4, z5, z6⟩ := z
        have HA := Lib.hid ha
        cases z3 with
        | true =>
          have HE := Lib.hid ((chain_bad HD.out rfl HA.out HZ.out rfl).symm.trans hE.out)
          clear hE
          go_wp2_with fail
          refine (l3add_any _ _ hdk _).mono ?_
          rintro e w1 ⟨rfl, rfl⟩
          go_wp2_with fail
          refine (spart_eq ha _ HSr.out HN.out (by omega)).mono ?_
          rintro e w2 ⟨rfl, b2⟩
          have hszr := B.out.size
          have B2 := Lib.hid (bstep B.out b2 hszr)
          have O2 := Lib.hid (O.out.below b2 (Nat.le_refl _))
          have HS2 := Lib.hid (HSr.out.below b2 (Nat.le_refl _) |>.more b2.size)
          clear b2 e0 e1 e2 e3 e4 e5 e6
          go_wp2
          obtain ⟨b3, off3, hA3, hb3, ⟨x0, x1, x2, x3, x4, x5, x6⟩⟩ := dats_elem HS2.out HZ.out
          injection hA3 with hA3; injection hA3 with hb3' ho3; subst hb3' ho3
          change w2.cell? ⟨b, off + j * 7, none⟩ = some (.int .i64 z0) at x0
          change w2.cell? ⟨b, off + j * 7 + 1, none⟩ = some (.int .i64 z1) at x1
          change w2.cell? ⟨b, off + j * 7 + 2, none⟩ = some (.int .i64 z2) at x2
          change w2.cell? ⟨b, off + j * 7 + 3, none⟩ = some (.bool true) at x3
          change w2.cell? ⟨b, off + j * 7 + 4, none⟩ = some (.bool z4) at x4
          change w2.cell? ⟨b, off + j * 7 + 5, none⟩ = some (.bool z5) at x5
          change w2.cell? ⟨b, off + j * 7 + 6, none⟩ = some (.string z6) at x6
          refine wp_region_held_drew (S := fun w' => w'.cell? ⟨b, off + j * 7 + 3, none⟩ = some (.bool true)) (by kernel_rfl) (by first | exact x3 | go_keep) (fun hHeld => ?_)
          refine wpAnyH_take (i := 0) (oi := ⟨some 23, _, _, _, _, _⟩) (v := ?_) rfl (by kernel_rfl) (by kernel_rfl) (by kernel_rfl) (fun _ _ _ h => h) (Or.inl ⟨by kernel_rfl, ?y66⟩) (by assumption) ?_
          case y66 => (intro w hSw; (try dsimp only at hSw); first | (go_simp; done) | (go_simp; with_reducible rfl))
          simp only [Act.put, List.setIfInBounds_toArray, List.set_cons_zero, List.set_cons_succ]
          refine wpAnyH_take (i := 1) (oi := ⟨some 24, _, _, _, _, _⟩) (v := ?_) rfl (by kernel_rfl) (by kernel_rfl) (by kernel_rfl) (fun _ _ _ h => h) (Or.inl ⟨by kernel_rfl, ?y67⟩) (by assumption) ?_
          case y67 => (intro w hSw; (try dsimp only at hSw); first | (go_simp; done) | (go_simp; with_reducible rfl))
          simp only [Act.put, List.setIfInBounds_toArray, List.set_cons_zero, List.set_cons_succ]
          refine wpAnyH_take (i := 2) (oi := ⟨some 25, _, _, _, _, _⟩) (v := ?_) rfl (by kernel_rfl) (by kernel_rfl) (by kernel_rfl) (fun _ _ _ h => h) (Or.inl ⟨by kernel_rfl, ?y68⟩) (by assumption) ?_
          case y68 => (intro w hSw; (try dsimp only at hSw); first | (go_simp; done) | (go_simp; with_reducible rfl))
          simp only [Act.put, List.setIfInBounds_toArray, List.set_cons_zero, List.set_cons_succ]
          refine wpAnyH_take (i := 3) (oi := ⟨some 26, _, _, _, _, _⟩) (v := ?_) rfl (by kernel_rfl) (by kernel_rfl) (by kernel_rfl) (fun _ _ _ h => h) (Or.inl ⟨by kernel_rfl, ?y69⟩) (by assumption) ?_
          case y69 => (intro w hSw; (try dsimp only at hSw); first | (go_simp; done) | (go_simp; with_reducible rfl))
          simp only [Act.put, List.setIfInBounds_toArray, List.set_cons_zero, List.set_cons_succ]
          refine wpAnyH_take (i := 4) (oi := ⟨some 27, _, _, _, _, _⟩) (v := ?_) rfl (by kernel_rfl) (by kernel_rfl) (by kernel_rfl) (fun _ _ _ h => h) (Or.inl ⟨by kernel_rfl, ?y70⟩) (by assumption) ?_
          case y70 => (intro w hSw; (try dsimp only at hSw); first | (go_simp; done) | (go_simp; with_reducible rfl))
          simp only [Act.put, List.setIfInBounds_toArray, List.set_cons_zero, List.set_cons_succ]
          refine wpAnyH_take (i := 5) (oi := ⟨some 28, _, _, _, _, _⟩) (v := ?_) rfl (by kernel_rfl) (by kernel_rfl) (by kernel_rfl) (fun _ _ _ h => h) (Or.inl ⟨by kernel_rfl, ?y71⟩) (by assumption) ?_
          case y71 => (intro w hSw; (try dsimp only at hSw); first | (go_simp; done) | (go_simp; with_reducible rfl))
          simp only [Act.put, List.setIfInBounds_toArray, List.set_cons_zero, List.set_cons_succ]
          refine wpAnyH_take (i := 6) (oi := ⟨some 29, _, _, _, _, _⟩) (v := ?_) rfl (by kernel_rfl) (by kernel_rfl) (by kernel_rfl) (fun _ _ _ h => h) (Or.inl ⟨by kernel_rfl, ?y72⟩) (by assumption) ?_
          case y72 => (intro w hSw; (try dsimp only at hSw); first | (go_simp; done) | (go_simp; with_reducible rfl))
          simp only [Act.put, List.setIfInBounds_toArray, List.set_cons_zero, List.set_cons_succ]
          refine wpAnyH_take (i := 7) (oi := ⟨some 30, _, _, _, _, _⟩) (v := ?_) rfl (by kernel_rfl) (by kernel_rfl) (by kernel_rfl) (fun _ _ _ h => h) (Or.inl ⟨by kernel_rfl, ?y73⟩) (by assumption) ?_
          case y73 => (intro w hSw; (try dsimp only at hSw); first | (go_simp; done) | (go_simp; with_reducible rfl))
          simp only [Act.put, List.setIfInBounds_toArray, List.set_cons_zero, List.set_cons_succ]
          refine wpAnyH_take (i := 8) (oi := ⟨some 31, _, _, _, _, _⟩) (v := ?_) rfl (by kernel_rfl) (by kernel_rfl) (by kernel_rfl) (fun _ _ _ h => h) (Or.inl ⟨by kernel_rfl, ?y74⟩) (by assumption) ?_
          case y74 => (intro w hSw; (try dsimp only at hSw); first | (go_simp; done) | (go_simp; with_reducible rfl))
          simp only [Act.put, List.setIfInBounds_toArray, List.set_cons_zero, List.set_cons_succ]
          refine wpAnyH_take (i := 9) (oi := ⟨some 32, _, _, _, _, _⟩) (v := ?_) rfl (by kernel_rfl) (by kernel_rfl) (by kernel_rfl) (fun _ _ _ h => h) (Or.inl ⟨by kernel_rfl, ?y75⟩) (by assumption) ?_
          case y75 => (intro w hSw; (try dsimp only at hSw); first | (go_simp; done) | (go_simp; with_reducible rfl))
          simp only [Act.put, List.setIfInBounds_toArray, List.set_cons_zero, List.set_cons_succ]
          refine wpAnyH_take (i := 10) (oi := ⟨some 33, _, _, _, _, _⟩) (v := undef) rfl (by kernel_rfl) (by kernel_rfl) (by kernel_rfl) (fun _ _ _ h => h) (Or.inr ⟨by kernel_rfl, rfl⟩) (by assumption) ?_
          simp only [Act.put, List.setIfInBounds_toArray, List.set_cons_zero, List.set_cons_succ]
          refine wpAnyH_take (i := 11) (oi := ⟨some 34, _, _, _, _, _⟩) (v := undef) rfl (by kernel_rfl) (by kernel_rfl) (by kernel_rfl) (fun _ _ _ h => h) (Or.inr ⟨by kernel_rfl, rfl⟩) (by assumption) ?_
          simp only [Act.put, List.setIfInBounds_toArray, List.set_cons_zero, List.set_cons_succ]
          refine wpAnyH_take (i := 12) (oi := ⟨some 35, _, _, _, _, _⟩) (v := undef) rfl (by kernel_rfl) (by kernel_rfl) (by kernel_rfl) (fun _ _ _ h => h) (Or.inr ⟨by kernel_rfl, rfl⟩) (by assumption) ?_
          simp only [Act.put, List.setIfInBounds_toArray, List.set_cons_zero, List.set_cons_succ]
          refine wpAnyH_take (i := 13) (oi := ⟨some 36, _, _, _, _, _⟩) (v := undef) rfl (by kernel_rfl) (by kernel_rfl) (by kernel_rfl) (fun _ _ _ h => h) (Or.inr ⟨by kernel_rfl, rfl⟩) (by assumption) ?_
          simp only [Act.put, List.setIfInBounds_toArray, List.set_cons_zero, List.set_cons_succ]
          refine wpAnyH_take (i := 14) (oi := ⟨some 37, _, _, _, _, _⟩) (v := undef) rfl (by kernel_rfl) (by kernel_rfl) (by kernel_rfl) (fun _ _ _ h => h) (Or.inr ⟨by kernel_rfl, rfl⟩) (by assumption) ?_
          simp only [Act.put, List.setIfInBounds_toArray, List.set_cons_zero, List.set_cons_succ]
          refine wpAnyH_take (i := 15) (oi := ⟨some 38, _, _, _, _, _⟩) (v := undef) rfl (by kernel_rfl) (by kernel_rfl) (by kernel_rfl) (fun _ _ _ h => h) (Or.inr ⟨by kernel_rfl, rfl⟩) (by assumption) ?_
          simp only [Act.put, List.setIfInBounds_toArray, List.set_cons_zero, List.set_cons_succ]
          refine wpAnyH_take (i := 16) (oi := ⟨some 39, _, _, _, _, _⟩) (v := undef) rfl (by kernel_rfl) (by kernel_rfl) (by kernel_rfl) (fun _ _ _ h => h) (Or.inr ⟨by kernel_rfl, rfl⟩) (by assumption) ?_
          simp only [Act.put, List.setIfInBounds_toArray, List.set_cons_zero, List.set_cons_succ]
          refine wpAnyH_take (i := 17) (oi := ⟨some 40, _, _, _, _, _⟩) (v := undef) rfl (by kernel_rfl) (by kernel_rfl) (by kernel_rfl) (fun _ _ _ h => h) (Or.inr ⟨by kernel_rfl, rfl⟩) (by assumption) ?_
          simp only [Act.put, List.setIfInBounds_toArray, List.set_cons_zero, List.set_cons_succ]
          refine wpAnyH_take (i := 18) (oi := ⟨some 41, _, _, _, _, _⟩) (v := undef) rfl (by kernel_rfl) (by kernel_rfl) (by kernel_rfl) (fun _ _ _ h => h) (Or.inr ⟨by kernel_rfl, rfl⟩) (by assumption) ?_
          simp only [Act.put, List.setIfInBounds_toArray, List.set_cons_zero, List.set_cons_succ]
          refine wpAnyH_take (i := 19) (oi := ⟨some 42, _, _, _, _, _⟩) (v := undef) rfl (by kernel_rfl) (by kernel_rfl) (by kernel_rfl) (fun _ _ _ h => h) (Or.inr ⟨by kernel_rfl, rfl⟩) (by assumption) ?_
          simp only [Act.put, List.setIfInBounds_toArray, List.set_cons_zero, List.set_cons_succ]
          refine wpAnyH_take (i := 20) (oi := ⟨some 43, _, _, _, _, _⟩) (v := ?_) rfl (by kernel_rfl) (by kernel_rfl) (by kernel_rfl) (fun _ _ _ h => h) (Or.inl ⟨by kernel_rfl, ?y76⟩) (by assumption) ?_
          case y76 => (intro w hSw; (try dsimp only at hSw); first | (go_simp; done) | (go_simp; with_reducible rfl))
          simp only [Act.put, List.setIfInBounds_toArray, List.set_cons_zero, List.set_cons_succ]
          refine wpAnyH_take (i := 21) (oi := ⟨some 44, _, _, _, _, _⟩) (v := ?_) rfl (by kernel_rfl) (by kernel_rfl) (by kernel_rfl) (fun _ _ _ h => h) (Or.inl ⟨by kernel_rfl, ?y77⟩) (by assumption) ?_
          case y77 => (intro w hSw; (try dsimp only at hSw); first | (go_simp; done) | (go_simp; with_reducible rfl))
          simp only [Act.put, List.setIfInBounds_toArray, List.set_cons_zero, List.set_cons_succ]
          refine wpAnyH_take (i := 22) (oi := ⟨some 45, _, _, _, _, _⟩) (v := undef) rfl (by kernel_rfl) (by kernel_rfl) (by kernel_rfl) (fun _ _ _ h => h) (Or.inr ⟨by kernel_rfl, rfl⟩) (by assumption) ?_
          simp only [Act.put, List.setIfInBounds_toArray, List.set_cons_zero, List.set_cons_succ]
          refine wpAnyH_take (i := 23) (oi := ⟨some 46, _, _, _, _, _⟩) (v := undef) rfl (by kernel_rfl) (by kernel_rfl) (by kernel_rfl) (fun _ _ _ h => h) (Or.inr ⟨by kernel_rfl, rfl⟩) (by assumption) ?_
          simp only [Act.put, List.setIfInBounds_toArray, List.set_cons_zero, List.set_cons_succ]
          refine wpAnyH_take (i := 24) (oi := ⟨some 47, _, _, _, _, _⟩) (v := undef) rfl (by kernel_rfl) (by kernel_rfl) (by kernel_rfl) (fun _ _ _ h => h) (Or.inr ⟨by kernel_rfl, rfl⟩) (by assumption) ?_
          simp only [Act.put, List.setIfInBounds_toArray, List.set_cons_zero, List.set_cons_succ]
          refine wpAnyH_take (i := 25) (oi := ⟨some 48, _, _, _, _, _⟩) (v := ?_) rfl (by kernel_rfl) (by kernel_rfl) (by kernel_rfl) (fun _ _ _ h => h) (Or.inl ⟨by kernel_rfl, ?y78⟩) (by assumption) ?_
          case y78 => (intro w hSw; (try dsimp only at hSw); first | (go_simp; done) | (go_simp; with_reducible rfl))
          simp only [Act.put, List.setIfInBounds_toArray, List.set_cons_zero, List.set_cons_succ]
          refine wpAnyH_done (by kernel_rfl) ?_ _
          go_wp2
          go_ret
          exact ⟨some ⟨w2.heap.size, 0, none⟩, 0, 0, rfl, by rw [← HE.out]; rfl, (fun h => nomatch h), by rw [← HE.out]; exact (Own.made w2 w2.heap.size 3 1 #[] 0 (Nat.le_refl _) (by unfold maxLen; omega) rfl).lower B2.out.size, (B2.out.alloc B2.out.size _).drew⟩
        | false =>
          obtain ⟨lv, hlv⟩ : ∃ v, likeB ⟨z0, z1, z2, false, z4, z5, z6⟩ ⟨d0, d1, d2, d3, false, d5, d6⟩ = v := ⟨_, rfl⟩
          have HL := Lib.hid hlv
          have HL2 := Lib.hid ((like_comm _ _).trans hlv)
          clear hlv
          cases lv with
          | false =>
            have HE := Lib.hid ((chain_bad HD.out rfl HA.out HZ.out (by simp [HL.out])).symm.trans hE.out)
            clear hE
            go_wp2_with fail
            refine (l3add_any _ _ hdk _).mono ?_
            rintro e w1 ⟨rfl, rfl⟩
            go_wp2_with fail
            refine (spart_eq ha _ HSr.out HN.out (by omega)).mono ?_
            rintro e w2 ⟨rfl, b2⟩
            have hszr := B.out.size
            have B2 := Lib.hid (bstep B.out b2 hszr)
            have O2 := Lib.hid (O.out.below b2 (Nat.le_refl _))
            have HS2 := Lib.hid (HSr.out.below b2 (Nat.le_refl _) |>.more b2.size)
            clear b2 e0 e1 e2 e3 e4 e5 e6
            go_wp2
            obtain ⟨b3, off3, hA3, hb3, ⟨x0, x1, x2, x3, x4, x5, x6⟩⟩ := dats_elem HS2.out HZ.out
            injection hA3 with hA3; injection hA3 with hb3' ho3; subst hb3' ho3
            change w2.cell? ⟨b, off + j * 7, none⟩ = some (.int .i64 z0) at x0
            change w2.cell? ⟨b, off + j * 7 + 1, none⟩ = some (.int .i64 z1) at x1
            change w2.cell? ⟨b, off + j * 7 + 2, none⟩ = some (.int .i64 z2) at x2
            change w2.cell? ⟨b, off + j * 7 + 3, none⟩ = some (.bool false) at x3
            change w2.cell? ⟨b, off + j * 7 + 4, none⟩ = some (.bool z4) at x4
            change w2.cell? ⟨b, off + j * 7 + 5, none⟩ = some (.bool z5) at x5
            change w2.cell? ⟨b, off + j * 7 + 6, none⟩ = some (.string z6) at x6
            have hb2l : b < w2.drew.heap.size := hb3
            clear hb3
            obtain ⟨b3, off3, hA3, hb3, ⟨y0, y1, y2, y3, y4, y5, y6⟩⟩ := dats_elem HS2.out HD.out
            injection hA3 with hA3; injection hA3 with hb3' ho3; subst hb3' ho3
            change w2.cell? ⟨b, off + k * 7, none⟩ = some (.int .i64 d0) at y0
            change w2.cell? ⟨b, off + k * 7 + 1, none⟩ = some (.int .i64 d1) at y1
            change w2.cell? ⟨b, off + k * 7 + 2, none⟩ = some (.int .i64 d2) at y2
            change w2.cell? ⟨b, off + k * 7 + 3, none⟩ = some (.bool d3) at y3
            change w2.cell? ⟨b, off + k * 7 + 4, none⟩ = some (.bool false) at y4
            change w2.cell? ⟨b, off + k * 7 + 5, none⟩ = some (.bool d5) at y5
            change w2.cell? ⟨b, off + k * 7 + 6, none⟩ = some (.string d6) at y6
            clear hb3
            refine wp_region_held_drew (S := fun w' => w'.cell? ⟨b, off + j * 7, none⟩ = some (.int .i64 z0) ∧ w'.cell? ⟨b, off + j * 7 + 1, none⟩ = some (.int .i64 z1) ∧ w'.cell? ⟨b, off + j * 7 + 2, none⟩ = some (.int .i64 z2) ∧ w'.cell? ⟨b, off + j * 7 + 3, none⟩ = some (.bool false) ∧ w'.cell? ⟨b, off + j * 7 + 4, none⟩ = some (.bool z4) ∧ w'.cell? ⟨b, off + j * 7 + 5, none⟩ = some (.bool z5) ∧ w'.cell? ⟨b, off + j * 7 + 6, none⟩ = some (.string z6) ∧ w'.cell? ⟨b, off + k * 7, none⟩ = some (.int .i64 d0) ∧ w'.cell? ⟨b, off + k * 7 + 1, none⟩ = some (.int .i64 d1) ∧ w'.cell? ⟨b, off + k * 7 + 2, none⟩ = some (.int .i64 d2) ∧ w'.cell? ⟨b, off + k * 7 + 3, none⟩ = some (.bool d3) ∧ w'.cell? ⟨b, off + k * 7 + 4, none⟩ = some (.bool false) ∧ w'.cell? ⟨b, off + k * 7 + 5, none⟩ = some (.bool d5) ∧ w'.cell? ⟨b, off + k * 7 + 6, none⟩ = some (.string d6)) (by kernel_rfl) (by first | exact ⟨x0, x1, x2, x3, x4, x5, x6, y0, y1, y2, y3, y4, y5, y6⟩ | exact ⟨u0, u1, u2, u3, u4, u5, u6, v0, v1, v2, v3, v4, v5, v6⟩ | go_keep) (fun hHeld => ?_)
            refine wpAnyH_take (i := 0) (oi := ⟨some 23, _, _, _, _, _⟩) (v := ?_) rfl (by kernel_rfl) (by kernel_rfl) (by kernel_rfl) (fun _ _ _ h => h) (Or.inl ⟨by kernel_rfl, ?y79⟩) (by assumption) ?_
            case y79 => (intro w hSw; (try dsimp only at hSw); first | (go_simp; done) | (go_simp; with_reducible rfl))
            simp only [Act.put, List.setIfInBounds_toArray, List.set_cons_zero, List.set_cons_succ]
            refine wpAnyH_take (i := 1) (oi := ⟨some 24, _, _, _, _, _⟩) (v := ?_) rfl (by kernel_rfl) (by kernel_rfl) (by kernel_rfl) (fun _ _ _ h => h) (Or.inl ⟨by kernel_rfl, ?y80⟩) (by assumption) ?_
            case y80 => (intro w hSw; (try dsimp only at hSw); first | (go_simp; done) | (go_simp; with_reducible rfl))
            simp only [Act.put, List.setIfInBounds_toArray, List.set_cons_zero, List.set_cons_succ]
            refine wpAnyH_take (i := 2) (oi := ⟨some 25, _, _, _, _, _⟩) (v := ?_) rfl (by kernel_rfl) (by kernel_rfl) (by kernel_rfl) (fun _ _ _ h => h) (Or.inl ⟨by kernel_rfl, ?y81⟩) (by assumption) ?_
            case y81 => (intro w hSw; (try dsimp only at hSw); first | (go_simp; done) | (go_simp; with_reducible rfl))
            simp only [Act.put, List.setIfInBounds_toArray, List.set_cons_zero, List.set_cons_succ]
            refine wpAnyH_take (i := 3) (oi := ⟨some 26, _, _, _, _, _⟩) (v := ?_) rfl (by kernel_rfl) (by kernel_rfl) (by kernel_rfl) (fun _ _ _ h => h) (Or.inl ⟨by kernel_rfl, ?y82⟩) (by assumption) ?_
            case y82 => (intro w hSw; (try dsimp only at hSw); first | (go_simp; done) | (go_simp; with_reducible rfl))
            simp only [Act.put, List.setIfInBounds_toArray, List.set_cons_zero, List.set_cons_succ]
            refine wpAnyH_take (i := 4) (oi := ⟨some 27, _, _, _, _, _⟩) (v := ?_) rfl (by kernel_rfl) (by kernel_rfl) (by kernel_rfl) (fun _ _ _ h => h) (Or.inl ⟨by kernel_rfl, ?y83⟩) (by assumption) ?_
            case y83 => (intro w hSw; (try dsimp only at hSw); first | (go_simp; done) | (go_simp; with_reducible rfl))
            simp only [Act.put, List.setIfInBounds_toArray, List.set_cons_zero, List.set_cons_succ]
            refine wpAnyH_take (i := 5) (oi := ⟨some 28, _, _, _, _, _⟩) (v := ?_) rfl (by kernel_rfl) (by kernel_rfl) (by kernel_rfl) (fun _ _ _ h => h) (Or.inl ⟨by kernel_rfl, ?y84⟩) (by assumption) ?_
            case y84 => (intro w hSw; (try dsimp only at hSw); first | (go_simp; done) | (go_simp; with_reducible rfl))
            simp only [Act.put, List.setIfInBounds_toArray, List.set_cons_zero, List.set_cons_succ]
            refine wpAnyH_take (i := 6) (oi := ⟨some 29, _, _, _, _, _⟩) (v := ?_) rfl (by kernel_rfl) (by kernel_rfl) (by kernel_rfl) (fun _ _ _ h => h) (Or.inl ⟨by kernel_rfl, ?y85⟩) (by assumption) ?_
            case y85 => (intro w hSw; (try dsimp only at hSw); first | (go_simp; done) | (go_simp; with_reducible rfl))
            simp only [Act.put, List.setIfInBounds_toArray, List.set_cons_zero, List.set_cons_succ]
            refine wpAnyH_take (i := 7) (oi := ⟨some 30, _, _, _, _, _⟩) (v := ?_) rfl (by kernel_rfl) (by kernel_rfl) (by kernel_rfl) (fun _ _ _ h => h) (Or.inl ⟨by kernel_rfl, ?y86⟩) (by assumption) ?_
            case y86 => (intro w hSw; (try dsimp only at hSw); first | (go_simp; done) | (go_simp; with_reducible rfl))
            simp only [Act.put, List.setIfInBounds_toArray, List.set_cons_zero, List.set_cons_succ]
            refine wpAnyH_take (i := 8) (oi := ⟨some 31, _, _, _, _, _⟩) (v := ?_) rfl (by kernel_rfl) (by kernel_rfl) (by kernel_rfl) (fun _ _ _ h => h) (Or.inl ⟨by kernel_rfl, ?y87⟩) (by assumption) ?_
            case y87 => (intro w hSw; (try dsimp only at hSw); first | (go_simp; done) | (go_simp; with_reducible rfl))
            simp only [Act.put, List.setIfInBounds_toArray, List.set_cons_zero, List.set_cons_succ]
            refine wpAnyH_take (i := 9) (oi := ⟨some 32, _, _, _, _, _⟩) (v := ?_) rfl (by kernel_rfl) (by kernel_rfl) (by kernel_rfl) (fun _ _ _ h => h) (Or.inl ⟨by kernel_rfl, ?y88⟩) (by assumption) ?_
            case y88 => (intro w hSw; (try dsimp only at hSw); first | (go_simp; done) | (go_simp; with_reducible rfl))
            simp only [Act.put, List.setIfInBounds_toArray, List.set_cons_zero, List.set_cons_succ]
            refine wpAnyH_take (i := 10) (oi := ⟨some 33, _, _, _, _, _⟩) (v := ?_) rfl (by kernel_rfl) (by kernel_rfl) (by kernel_rfl) (fun _ _ _ h => h) (Or.inl ⟨by kernel_rfl, ?y89⟩) (by assumption) ?_
            case y89 => (intro w hSw; (try dsimp only at hSw); first | (go_simp; done) | (go_simp; with_reducible rfl))
            simp only [Act.put, List.setIfInBounds_toArray, List.set_cons_zero, List.set_cons_succ]
            refine wpAnyH_take (i := 11) (oi := ⟨some 34, _, _, _, _, _⟩) (v := ?_) rfl (by kernel_rfl) (by kernel_rfl) (by kernel_rfl) (fun _ _ _ h => h) (Or.inl ⟨by kernel_rfl, ?y90⟩) (by assumption) ?_
            case y90 => (intro w hSw; (try dsimp only at hSw); first | (go_simp; done) | (go_simp; with_reducible rfl))
            simp only [Act.put, List.setIfInBounds_toArray, List.set_cons_zero, List.set_cons_succ]
            refine wpAnyH_take (i := 12) (oi := ⟨some 35, _, _, _, _, _⟩) (v := ?_) rfl (by kernel_rfl) (by kernel_rfl) (by kernel_rfl) (fun _ _ _ h => h) (Or.inl ⟨by kernel_rfl, ?y91⟩) (by assumption) ?_
            case y91 => (intro w hSw; (try dsimp only at hSw); first | (go_simp; done) | (go_simp; with_reducible rfl))
            simp only [Act.put, List.setIfInBounds_toArray, List.set_cons_zero, List.set_cons_succ]
            refine wpAnyH_take (i := 13) (oi := ⟨some 36, _, _, _, _, _⟩) (v := ?_) rfl (by kernel_rfl) (by kernel_rfl) (by kernel_rfl) (fun _ _ _ h => h) (Or.inl ⟨by kernel_rfl, ?y92⟩) (by assumption) ?_
            case y92 => (intro w hSw; (try dsimp only at hSw); first | (go_simp; done) | (go_simp; with_reducible rfl))
            simp only [Act.put, List.setIfInBounds_toArray, List.set_cons_zero, List.set_cons_succ]
            refine wpAnyH_take (i := 14) (oi := ⟨some 37, _, _, _, _, _⟩) (v := ?_) rfl (by kernel_rfl) (by kernel_rfl) (by kernel_rfl) (fun _ _ _ h => h) (Or.inl ⟨by kernel_rfl, ?y93⟩) (by assumption) ?_
            case y93 => (intro w hSw; (try dsimp only at hSw); first | (go_simp; done) | (go_simp; with_reducible rfl))
            simp only [Act.put, List.setIfInBounds_toArray, List.set_cons_zero, List.set_cons_succ]
            refine wpAnyH_take (i := 15) (oi := ⟨some 38, _, _, _, _, _⟩) (v := ?_) rfl (by kernel_rfl) (by kernel_rfl) (by kernel_rfl) (fun _ _ _ h => h) (Or.inl ⟨by kernel_rfl, ?y94⟩) (by assumption) ?_
            case y94 => (intro w hSw; (try dsimp only at hSw); first | (go_simp; done) | (go_simp; with_reducible rfl))
            simp only [Act.put, List.setIfInBounds_toArray, List.set_cons_zero, List.set_cons_succ]
            refine wpAnyH_take (i := 16) (oi := ⟨some 39, _, _, _, _, _⟩) (v := ?_) rfl (by kernel_rfl) (by kernel_rfl) (by kernel_rfl) (fun _ _ _ h => h) (Or.inl ⟨by kernel_rfl, ?y95⟩) (by assumption) ?_
            case y95 => (intro w hSw; (try dsimp only at hSw); first | (go_simp; done) | (go_simp; with_reducible rfl))
            simp only [Act.put, List.setIfInBounds_toArray, List.set_cons_zero, List.set_cons_succ]
            refine wpAnyH_take (i := 17) (oi := ⟨some 40, _, _, _, _, _⟩) (v := ?_) rfl (by kernel_rfl) (by kernel_rfl) (by kernel_rfl) (fun _ _ _ h => h) (Or.inl ⟨by kernel_rfl, ?y96⟩) (by assumption) ?_
            case y96 => (intro w hSw; (try dsimp only at hSw); first | (go_simp; done) | (go_simp; with_reducible rfl))
            simp only [Act.put, List.setIfInBounds_toArray, List.set_cons_zero, List.set_cons_succ]
            refine wpAnyH_ready (rs := [18]) (by kernel_rfl) (by simp) ?_
            refine AllReadyH.cons (o := ⟨some 41, _, _, _, _, _⟩) rfl (fun K hK => ?_) AllReadyH.nil
            go_simp
            (go_at_call 64; (with_reducible refine (slike_any HL2.out _).mono ?_); rintro e w5 ⟨rfl, b5⟩; have B5 := Lib.hid (bstep B2.out.drew b5 B2.out.size); have O5 := Lib.hid (O2.out.drew.below b5 (Nat.le_refl _)); have c5 := (bcell b5).1; have u0 := (c5 b (off + j * 7) hb2l).trans x0; have u1 := (c5 b (off + j * 7 + 1) hb2l).trans x1; have u2 := (c5 b (off + j * 7 + 2) hb2l).trans x2; have u3 := (c5 b (off + j * 7 + 3) hb2l).trans x3; have u4 := (c5 b (off + j * 7 + 4) hb2l).trans x4; have u5 := (c5 b (off + j * 7 + 5) hb2l).trans x5; have u6 := (c5 b (off + j * 7 + 6) hb2l).trans x6; have v0 := (c5 b (off + k * 7) hb2l).trans y0; have v1 := (c5 b (off + k * 7 + 1) hb2l).trans y1; have v2 := (c5 b (off + k * 7 + 2) hb2l).trans y2; have v3 := (c5 b (off + k * 7 + 3) hb2l).trans y3; have v4 := (c5 b (off + k * 7 + 4) hb2l).trans y4; have v5 := (c5 b (off + k * 7 + 5) hb2l).trans y5; have v6 := (c5 b (off + k * 7 + 6) hb2l).trans y6; clear c5 b5)
            first | go_wp2_with fail | skip
            refine hK.out _ _ (by first | exact ⟨x0, x1, x2, x3, x4, x5, x6, y0, y1, y2, y3, y4, y5, y6⟩ | exact ⟨u0, u1, u2, u3, u4, u5, u6, v0, v1, v2, v3, v4, v5, v6⟩ | go_keep) (fun hHeld => ?_)
            clear hK K
            try simp only [Act.put, List.setIfInBounds_toArray, List.set_cons_zero, List.set_cons_succ]
            refine wpAnyH_take (i := 19) (oi := ⟨some 42, _, _, _, _, _⟩) (v := ?_) rfl (by kernel_rfl) (by kernel_rfl) (by kernel_rfl) (fun _ _ _ h => h) (Or.inl ⟨by kernel_rfl, ?y97⟩) (by assumption) ?_
            case y97 => (intro w hSw; (try dsimp only at hSw); first | (go_simp; done) | (go_simp; with_reducible rfl))
            simp only [Act.put, List.setIfInBounds_toArray, List.set_cons_zero, List.set_cons_succ]
            refine wpAnyH_take (i := 20) (oi := ⟨some 43, _, _, _, _, _⟩) (v := ?_) rfl (by kernel_rfl) (by kernel_rfl) (by kernel_rfl) (fun _ _ _ h => h) (Or.inl ⟨by kernel_rfl, ?y98⟩) (by assumption) ?_
            case y98 => (intro w hSw; (try dsimp only at hSw); first | (go_simp; done) | (go_simp; with_reducible rfl))
            simp only [Act.put, List.setIfInBounds_toArray, List.set_cons_zero, List.set_cons_succ]
            refine wpAnyH_take (i := 21) (oi := ⟨some 44, _, _, _, _, _⟩) (v := ?_) rfl (by kernel_rfl) (by kernel_rfl) (by kernel_rfl) (fun _ _ _ h => h) (Or.inl ⟨by kernel_rfl, ?y99⟩) (by assumption) ?_
            case y99 => (intro w hSw; (try dsimp only at hSw); first | (go_simp; done) | (go_simp; with_reducible rfl))
            simp only [Act.put, List.setIfInBounds_toArray, List.set_cons_zero, List.set_cons_succ]
            refine wpAnyH_take (i := 22) (oi := ⟨some 45, _, _, _, _, _⟩) (v := undef) rfl (by kernel_rfl) (by kernel_rfl) (by kernel_rfl) (fun _ _ _ h => h) (Or.inr ⟨by kernel_rfl, rfl⟩) (by assumption) ?_
            simp only [Act.put, List.setIfInBounds_toArray, List.set_cons_zero, List.set_cons_succ]
            refine wpAnyH_take (i := 23) (oi := ⟨some 46, _, _, _, _, _⟩) (v := undef) rfl (by kernel_rfl) (by kernel_rfl) (by kernel_rfl) (fun _ _ _ h => h) (Or.inr ⟨by kernel_rfl, rfl⟩) (by assumption) ?_
            simp only [Act.put, List.setIfInBounds_toArray, List.set_cons_zero, List.set_cons_succ]
            refine wpAnyH_take (i := 24) (oi := ⟨some 47, _, _, _, _, _⟩) (v := undef) rfl (by kernel_rfl) (by kernel_rfl) (by kernel_rfl) (fun _ _ _ h => h) (Or.inr ⟨by kernel_rfl, rfl⟩) (by assumption) ?_
            simp only [Act.put, List.setIfInBounds_toArray, List.set_cons_zero, List.set_cons_succ]
            refine wpAnyH_take (i := 25) (oi := ⟨some 48, _, _, _, _, _⟩) (v := ?_) rfl (by kernel_rfl) (by kernel_rfl) (by kernel_rfl) (fun _ _ _ h => h) (Or.inl ⟨by kernel_rfl, ?y100⟩) (by assumption) ?_
            case y100 => (intro w hSw; (try dsimp only at hSw); first | (go_simp; done) | (go_simp; with_reducible rfl))
            simp only [Act.put, List.setIfInBounds_toArray, List.set_cons_zero, List.set_cons_succ]
            refine wpAnyH_done (by kernel_rfl) ?_ _
            go_wp2
            go_ret
            exact ⟨some ⟨w5.heap.size, 0, none⟩, 0, 0, rfl, by rw [← HE.out]; rfl, (fun h => nomatch h), by rw [← HE.out]; exact (Own.made w5 w5.heap.size 3 1 #[] 0 (Nat.le_refl _) (by unfold maxLen; omega) rfl).lower B5.out.size, B5.out.alloc B5.out.size _⟩
          | true =>
            have HE := Lib.hid ((chain_step HD.out rfl HA.out HZ.out (by simp [HL.out])).symm.trans hE.out)
            clear hE
            have hq2 : q + 1 ≤ 13 := by have h1 := good_len HG2.out (by rw [List.length_append, hal.out]; simp; omega); rw [List.length_append, hal.out, HN.out] at h1; simp at h1; omega
            have hq12 : decide ((12 : Int) < (q : Int)) = false := decide_eq_false (by omega)
            go_wp2_with fail
            refine (l3add_any _ _ hdk _).mono ?_
            rintro e w1 ⟨rfl, rfl⟩
            go_wp2_with fail
            refine (spart_eq ha _ HSr.out HN.out (by omega)).mono ?_
            rintro e w2 ⟨rfl, b2⟩
            have hszr := B.out.size
            have B2 := Lib.hid (bstep B.out b2 hszr)
            have O2 := Lib.hid (O.out.below b2 (Nat.le_refl _))
            have HS2 := Lib.hid (HSr.out.below b2 (Nat.le_refl _) |>.more b2.size)
            clear b2 e0 e1 e2 e3 e4 e5 e6
            go_wp2
            obtain ⟨b3, off3, hA3, hb3, ⟨x0, x1, x2, x3, x4, x5, x6⟩⟩ := dats_elem HS2.out HZ.out
            injection hA3 with hA3; injection hA3 with hb3' ho3; subst hb3' ho3
            change w2.cell? ⟨b, off + j * 7, none⟩ = some (.int .i64 z0) at x0
            change w2.cell? ⟨b, off + j * 7 + 1, none⟩ = some (.int .i64 z1) at x1
            change w2.cell? ⟨b, off + j * 7 + 2, none⟩ = some (.int .i64 z2) at x2
            change w2.cell? ⟨b, off + j * 7 + 3, none⟩ = some (.bool false) at x3
            change w2.cell? ⟨b, off + j * 7 + 4, none⟩ = some (.bool z4) at x4
            change w2.cell? ⟨b, off + j * 7 + 5, none⟩ = some (.bool z5) at x5
            change w2.cell? ⟨b, off + j * 7 + 6, none⟩ = some (.string z6) at x6
            have hb2l : b < w2.drew.heap.size := hb3
            clear hb3
            obtain ⟨b3, off3, hA3, hb3, ⟨y0, y1, y2, y3, y4, y5, y6⟩⟩ := dats_elem HS2.out HD.out
            injection hA3 with hA3; injection hA3 with hb3' ho3; subst hb3' ho3
            change w2.cell? ⟨b, off + k * 7, none⟩ = some (.int .i64 d0) at y0
            change w2.cell? ⟨b, off + k * 7 + 1, none⟩ = some (.int .i64 d1) at y1
            change w2.cell? ⟨b, off + k * 7 + 2, none⟩ = some (.int .i64 d2) at y2
            change w2.cell? ⟨b, off + k * 7 + 3, none⟩ = some (.bool d3) at y3
            change w2.cell? ⟨b, off + k * 7 + 4, none⟩ = some (.bool false) at y4
            change w2.cell? ⟨b, off + k * 7 + 5, none⟩ = some (.bool d5) at y5
            change w2.cell? ⟨b, off + k * 7 + 6, none⟩ = some (.string d6) at y6
            clear hb3
            refine wp_region_held_drew (S := fun w' => w'.cell? ⟨b, off + j * 7, none⟩ = some (.int .i64 z0) ∧ w'.cell? ⟨b, off + j * 7 + 1, none⟩ = some (.int .i64 z1) ∧ w'.cell? ⟨b, off + j * 7 + 2, none⟩ = some (.int .i64 z2) ∧ w'.cell? ⟨b, off + j * 7 + 3, none⟩ = some (.bool false) ∧ w'.cell? ⟨b, off + j * 7 + 4, none⟩ = some (.bool z4) ∧ w'.cell? ⟨b, off + j * 7 + 5, none⟩ = some (.bool z5) ∧ w'.cell? ⟨b, off + j * 7 + 6, none⟩ = some (.string z6) ∧ w'.cell? ⟨b, off + k * 7, none⟩ = some (.int .i64 d0) ∧ w'.cell? ⟨b, off + k * 7 + 1, none⟩ = some (.int .i64 d1) ∧ w'.cell? ⟨b, off + k * 7 + 2, none⟩ = some (.int .i64 d2) ∧ w'.cell? ⟨b, off + k * 7 + 3, none⟩ = some (.bool d3) ∧ w'.cell? ⟨b, off + k * 7 + 4, none⟩ = some (.bool false) ∧ w'.cell? ⟨b, off + k * 7 + 5, none⟩ = some (.bool d5) ∧ w'.cell? ⟨b, off + k * 7 + 6, none⟩ = some (.string d6)) (by kernel_rfl) (by first | exact ⟨x0, x1, x2, x3, x4, x5, x6, y0, y1, y2, y3, y4, y5, y6⟩ | exact ⟨u0, u1, u2, u3, u4, u5, u6, v0, v1, v2, v3, v4, v5, v6⟩ | go_keep) (fun hHeld => ?_)
            refine wpAnyH_take (i := 0) (oi := ⟨some 23, _, _, _, _, _⟩) (v := ?_) rfl (by kernel_rfl) (by kernel_rfl) (by kernel_rfl) (fun _ _ _ h => h) (Or.inl ⟨by kernel_rfl, ?y101⟩) (by assumption) ?_
            case y101 => (intro w hSw; (try dsimp only at hSw); first | (go_simp; done) | (go_simp; with_reducible rfl))
            simp only [Act.put, List.setIfInBounds_toArray, List.set_cons_zero, List.set_cons_succ]
            refine wpAnyH_take (i := 1) (oi := ⟨some 24, _, _, _, _, _⟩) (v := ?_) rfl (by kernel_rfl) (by kernel_rfl) (by kernel_rfl) (fun _ _ _ h => h) (Or.inl ⟨by kernel_rfl, ?y102⟩) (by assumption) ?_
            case y102 => (intro w hSw; (try dsimp only at hSw); first | (go_simp; done) | (go_simp; with_reducible rfl))
            simp only [Act.put, List.setIfInBounds_toArray, List.set_cons_zero, List.set_cons_succ]
            refine wpAnyH_take (i := 2) (oi := ⟨some 25, _, _, _, _, _⟩) (v := ?_) rfl (by kernel_rfl) (by kernel_rfl) (by kernel_rfl) (fun _ _ _ h => h) (Or.inl ⟨by kernel_rfl, ?y103⟩) (by assumption) ?_
            case y103 => (intro w hSw; (try dsimp only at hSw); first | (go_simp; done) | (go_simp; with_reducible rfl))
            simp only [Act.put, List.setIfInBounds_toArray, List.set_cons_zero, List.set_cons_succ]
            refine wpAnyH_take (i := 3) (oi := ⟨some 26, _, _, _, _, _⟩) (v := ?_) rfl (by kernel_rfl) (by kernel_rfl) (by kernel_rfl) (fun _ _ _ h => h) (Or.inl ⟨by kernel_rfl, ?y104⟩) (by assumption) ?_
            case y104 => (intro w hSw; (try dsimp only at hSw); first | (go_simp; done) | (go_simp; with_reducible rfl))
            simp only [Act.put, List.setIfInBounds_toArray, List.set_cons_zero, List.set_cons_succ]
            refine wpAnyH_take (i := 4) (oi := ⟨some 27, _, _, _, _, _⟩) (v := ?_) rfl (by kernel_rfl) (by kernel_rfl) (by kernel_rfl) (fun _ _ _ h => h) (Or.inl ⟨by kernel_rfl, ?y105⟩) (by assumption) ?_
            case y105 => (intro w hSw; (try dsimp only at hSw); first | (go_simp; done) | (go_simp; with_reducible rfl))
            simp only [Act.put, List.setIfInBounds_toArray, List.set_cons_zero, List.set_cons_succ]
            refine wpAnyH_take (i := 5) (oi := ⟨some 28, _, _, _, _, _⟩) (v := ?_) rfl (by kernel_rfl) (by kernel_rfl) (by kernel_rfl) (fun _ _ _ h => h) (Or.inl ⟨by kernel_rfl, ?y106⟩) (by assumption) ?_
            case y106 => (intro w hSw; (try dsimp only at hSw); first | (go_simp; done) | (go_simp; with_reducible rfl))
            simp only [Act.put, List.setIfInBounds_toArray, List.set_cons_zero, List.set_cons_succ]
            refine wpAnyH_take (i := 6) (oi := ⟨some 29, _, _, _, _, _⟩) (v := ?_) rfl (by kernel_rfl) (by kernel_rfl) (by kernel_rfl) (fun _ _ _ h => h) (Or.inl ⟨by kernel_rfl, ?y107⟩) (by assumption) ?_
            case y107 => (intro w hSw; (try dsimp only at hSw); first | (go_simp; done) | (go_simp; with_reducible rfl))
            simp only [Act.put, List.setIfInBounds_toArray, List.set_cons_zero, List.set_cons_succ]
            refine wpAnyH_take (i := 7) (oi := ⟨some 30, _, _, _, _, _⟩) (v := ?_) rfl (by kernel_rfl) (by kernel_rfl) (by kernel_rfl) (fun _ _ _ h => h) (Or.inl ⟨by kernel_rfl, ?y108⟩) (by assumption) ?_
            case y108 => (intro w hSw; (try dsimp only at hSw); first | (go_simp; done) | (go_simp; with_reducible rfl))
            simp only [Act.put, List.setIfInBounds_toArray, List.set_cons_zero, List.set_cons_succ]
            refine wpAnyH_take (i := 8) (oi := ⟨some 31, _, _, _, _, _⟩) (v := ?_) rfl (by kernel_rfl) (by kernel_rfl) (by kernel_rfl) (fun _ _ _ h => h) (Or.inl ⟨by kernel_rfl, ?y109⟩) (by assumption) ?_
            case y109 => (intro w hSw; (try dsimp only at hSw); first | (go_simp; done) | (go_simp; with_reducible rfl))
            simp only [Act.put, List.setIfInBounds_toArray, List.set_cons_zero, List.set_cons_succ]
            refine wpAnyH_take (i := 9) (oi := ⟨some 32, _, _, _, _, _⟩) (v := ?_) rfl (by kernel_rfl) (by kernel_rfl) (by kernel_rfl) (fun _ _ _ h => h) (Or.inl ⟨by kernel_rfl, ?y110⟩) (by assumption) ?_
            case y110 => (intro w hSw; (try dsimp only at hSw); first | (go_simp; done) | (go_simp; with_reducible rfl))
            simp only [Act.put, List.setIfInBounds_toArray, List.set_cons_zero, List.set_cons_succ]
            refine wpAnyH_take (i := 10) (oi := ⟨some 33, _, _, _, _, _⟩) (v := ?_) rfl (by kernel_rfl) (by kernel_rfl) (by kernel_rfl) (fun _ _ _ h => h) (Or.inl ⟨by kernel_rfl, ?y111⟩) (by assumption) ?_
            case y111 => (intro w hSw; (try dsimp only at hSw); first | (go_simp; done) | (go_simp; with_reducible rfl))
            simp only [Act.put, List.setIfInBounds_toArray, List.set_cons_zero, List.set_cons_succ]
            refine wpAnyH_take (i := 11) (oi := ⟨some 34, _, _, _, _, _⟩) (v := ?_) rfl (by kernel_rfl) (by kernel_rfl) (by kernel_rfl) (fun _ _ _ h => h) (Or.inl ⟨by kernel_rfl, ?y112⟩) (by assumption) ?_
            case y112 => (intro w hSw; (try dsimp only at hSw); first | (go_simp; done) | (go_simp; with_reducible rfl))
            simp only [Act.put, List.setIfInBounds_toArray, List.set_cons_zero, List.set_cons_succ]
            refine wpAnyH_take (i := 12) (oi := ⟨some 35, _, _, _, _, _⟩) (v := ?_) rfl (by kernel_rfl) (by kernel_rfl) (by kernel_rfl) (fun _ _ _ h => h) (Or.inl ⟨by kernel_rfl, ?y113⟩) (by assumption) ?_
            case y113 => (intro w hSw; (try dsimp only at hSw); first | (go_simp; done) | (go_simp; with_reducible rfl))
            simp only [Act.put, List.setIfInBounds_toArray, List.set_cons_zero, List.set_cons_succ]
            refine wpAnyH_take (i := 13) (oi := ⟨some 36, _, _, _, _, _⟩) (v := ?_) rfl (by kernel_rfl) (by kernel_rfl) (by kernel_rfl) (fun _ _ _ h => h) (Or.inl ⟨by kernel_rfl, ?y114⟩) (by assumption) ?_
            case y114 => (intro w hSw; (try dsimp only at hSw); first | (go_simp; done) | (go_simp; with_reducible rfl))
            simp only [Act.put, List.setIfInBounds_toArray, List.set_cons_zero, List.set_cons_succ]
            refine wpAnyH_take (i := 14) (oi := ⟨some 37, _, _, _, _, _⟩) (v := ?_) rfl (by kernel_rfl) (by kernel_rfl) (by kernel_rfl) (fun _ _ _ h => h) (Or.inl ⟨by kernel_rfl, ?y115⟩) (by assumption) ?_
            case y115 => (intro w hSw; (try dsimp only at hSw); first | (go_simp; done) | (go_simp; with_reducible rfl))
            simp only [Act.put, List.setIfInBounds_toArray, List.set_cons_zero, List.set_cons_succ]
            refine wpAnyH_take (i := 15) (oi := ⟨some 38, _, _, _, _, _⟩) (v := ?_) rfl (by kernel_rfl) (by kernel_rfl) (by kernel_rfl) (fun _ _ _ h => h) (Or.inl ⟨by kernel_rfl, ?y116⟩) (by assumption) ?_
            case y116 => (intro w hSw; (try dsimp only at hSw); first | (go_simp; done) | (go_simp; with_reducible rfl))
            simp only [Act.put, List.setIfInBounds_toArray, List.set_cons_zero, List.set_cons_succ]
            refine wpAnyH_take (i := 16) (oi := ⟨some 39, _, _, _, _, _⟩) (v := ?_) rfl (by kernel_rfl) (by kernel_rfl) (by kernel_rfl) (fun _ _ _ h => h) (Or.inl ⟨by kernel_rfl, ?y117⟩) (by assumption) ?_
            case y117 => (intro w hSw; (try dsimp only at hSw); first | (go_simp; done) | (go_simp; with_reducible rfl))
            simp only [Act.put, List.setIfInBounds_toArray, List.set_cons_zero, List.set_cons_succ]
            refine wpAnyH_take (i := 17) (oi := ⟨some 40, _, _, _, _, _⟩) (v := ?_) rfl (by kernel_rfl) (by kernel_rfl) (by kernel_rfl) (fun _ _ _ h => h) (Or.inl ⟨by kernel_rfl, ?y118⟩) (by assumption) ?_
            case y118 => (intro w hSw; (try dsimp only at hSw); first | (go_simp; done) | (go_simp; with_reducible rfl))
            simp only [Act.put, List.setIfInBounds_toArray, List.set_cons_zero, List.set_cons_succ]
            refine wpAnyH_ready (rs := [18]) (by kernel_rfl) (by simp) ?_
            refine AllReadyH.cons (o := ⟨some 41, _, _, _, _, _⟩) rfl (fun K hK => ?_) AllReadyH.nil
            go_simp
            (go_at_call 64; (with_reducible refine (slike_any HL2.out _).mono ?_); rintro e w5 ⟨rfl, b5⟩; have B5 := Lib.hid (bstep B2.out.drew b5 B2.out.size); have O5 := Lib.hid (O2.out.drew.below b5 (Nat.le_refl _)); have c5 := (bcell b5).1; have u0 := (c5 b (off + j * 7) hb2l).trans x0; have u1 := (c5 b (off + j * 7 + 1) hb2l).trans x1; have u2 := (c5 b (off + j * 7 + 2) hb2l).trans x2; have u3 := (c5 b (off + j * 7 + 3) hb2l).trans x3; have u4 := (c5 b (off + j * 7 + 4) hb2l).trans x4; have u5 := (c5 b (off + j * 7 + 5) hb2l).trans x5; have u6 := (c5 b (off + j * 7 + 6) hb2l).trans x6; have v0 := (c5 b (off + k * 7) hb2l).trans y0; have v1 := (c5 b (off + k * 7 + 1) hb2l).trans y1; have v2 := (c5 b (off + k * 7 + 2) hb2l).trans y2; have v3 := (c5 b (off + k * 7 + 3) hb2l).trans y3; have v4 := (c5 b (off + k * 7 + 4) hb2l).trans y4; have v5 := (c5 b (off + k * 7 + 5) hb2l).trans y5; have v6 := (c5 b (off + k * 7 + 6) hb2l).trans y6; clear c5 b5)
            first | go_wp2_with fail | skip
            refine hK.out _ _ (by first | exact ⟨x0, x1, x2, x3, x4, x5, x6, y0, y1, y2, y3, y4, y5, y6⟩ | exact ⟨u0, u1, u2, u3, u4, u5, u6, v0, v1, v2, v3, v4, v5, v6⟩ | go_keep) (fun hHeld => ?_)
            clear hK K
            try simp only [Act.put, List.setIfInBounds_toArray, List.set_cons_zero, List.set_cons_succ]
            refine wpAnyH_take (i := 19) (oi := ⟨some 42, _, _, _, _, _⟩) (v := ?_) rfl (by kernel_rfl) (by kernel_rfl) (by kernel_rfl) (fun _ _ _ h => h) (Or.inl ⟨by kernel_rfl, ?y119⟩) (by assumption) ?_
            case y119 => (intro w hSw; (try dsimp only at hSw); first | (go_simp; done) | (go_simp; with_reducible rfl))
            simp only [Act.put, List.setIfInBounds_toArray, List.set_cons_zero, List.set_cons_succ]
            refine wpAnyH_take (i := 20) (oi := ⟨some 43, _, _, _, _, _⟩) (v := ?_) rfl (by kernel_rfl) (by kernel_rfl) (by kernel_rfl) (fun _ _ _ h => h) (Or.inl ⟨by kernel_rfl, ?y120⟩) (by assumption) ?_
            case y120 => (intro w hSw; (try dsimp only at hSw); first | (go_simp; done) | (go_simp; with_reducible rfl))
            simp only [Act.put, List.setIfInBounds_toArray, List.set_cons_zero, List.set_cons_succ]
            refine wpAnyH_take (i := 21) (oi := ⟨some 44, _, _, _, _, _⟩) (v := ?_) rfl (by kernel_rfl) (by kernel_rfl) (by kernel_rfl) (fun _ _ _ h => h) (Or.inl ⟨by kernel_rfl, ?y121⟩) (by assumption) ?_
            case y121 => (intro w hSw; (try dsimp only at hSw); first | (go_simp; done) | (go_simp; with_reducible rfl))
            simp only [Act.put, List.setIfInBounds_toArray, List.set_cons_zero, List.set_cons_succ]
            refine wpAnyH_take (i := 22) (oi := ⟨some 45, _, _, _, _, _⟩) (v := ?_) rfl (by kernel_rfl) (by kernel_rfl) (by kernel_rfl) (fun _ _ _ h => h) (Or.inl ⟨by kernel_rfl, ?y122⟩) (by assumption) ?_
            case y122 => (intro w hSw; (try dsimp only at hSw); first | (go_simp; done) | (go_simp; with_reducible rfl))
            simp only [Act.put, List.setIfInBounds_toArray, List.set_cons_zero, List.set_cons_succ]
            refine wpAnyH_take (i := 23) (oi := ⟨some 46, _, _, _, _, _⟩) (v := ?_) rfl (by kernel_rfl) (by kernel_rfl) (by kernel_rfl) (fun _ _ _ h => h) (Or.inl ⟨by kernel_rfl, ?y123⟩) (by assumption) ?_
            case y123 => (intro w hSw; (try dsimp only at hSw); first | (go_simp; done) | (go_simp; with_reducible rfl))
            simp only [Act.put, List.setIfInBounds_toArray, List.set_cons_zero, List.set_cons_succ]
            refine wpAnyH_take (i := 24) (oi := ⟨some 47, _, _, _, _, _⟩) (v := ?_) rfl (by kernel_rfl) (by kernel_rfl) (by kernel_rfl) (fun _ _ _ h => h) (Or.inl ⟨by kernel_rfl, ?y124⟩) (by assumption) ?_
            case y124 => (intro w hSw; (try dsimp only at hSw); first | (go_simp; done) | (go_simp; with_reducible rfl))
            simp only [Act.put, List.setIfInBounds_toArray, List.set_cons_zero, List.set_cons_succ]
            refine wpAnyH_take (i := 25) (oi := ⟨some 48, _, _, _, _, _⟩) (v := ?_) rfl (by kernel_rfl) (by kernel_rfl) (by kernel_rfl) (fun _ _ _ h => h) (Or.inl ⟨by kernel_rfl, ?y125⟩) (by assumption) ?_
            case y125 => (intro w hSw; (try dsimp only at hSw); first | (go_simp; done) | (go_simp; with_reducible rfl))
            simp only [Act.put, List.setIfInBounds_toArray, List.set_cons_zero, List.set_cons_succ]
            refine wpAnyH_done (by kernel_rfl) ?_ _
            clear x0 x1 x2 x3 x4 x5 x6 y0 y1 y2 y3 y4 y5 y6 u0 u1 u2 u3 u4 u5 u6 v0 v1 v2 v3 v4 v5 v6
            go_wp2_with (at_builtin; refine wpList_app _ rfl _ _ _ rfl w.heap.size 3 i0 (.int .i64 0) 1 8 Try.underlying33 hi hz0 hz1 hz2 rfl (by decide) A1 q c1 (nats acc) rfl (O5.out.alloc _) (w5.heap.size + 1) (some ⟨w5.heap.size, 0, none⟩) 1 1 (nats [j]) rfl (sl_new rfl) rfl (nats_one _) (by unfold maxLen; omega) (by omega) (by have := B5.out.size; simp; omega) ?_; intro A3 c3 row w3 o3 g3 r3 d3; rw [← nats_app] at o3; have O3 := Lib.hid o3; have B3 := Lib.hid (below_at (B5.out.alloc B5.out.size _) (by have := B5.out.size; simp; omega) g3 r3 (fun a ha => (O5.out.blk a ha).1)); clear o3 g3 r3 d3)
            go_roundw
            case rel => exact ⟨f, j, q + 1, acc ++ [j], A3, c3, rfl, rfl, Lib.hid (by rw [List.length_append, hal.out]; rfl), by omega, by omega, by omega, HE, HG2, O3.out, B3.out⟩
            case measure => simp [lenOf]; omega
end Go.Proofs.Ytkhaodbcnnlhaaa
