/-
  The parts of the first message that is due: what the program and the reference find. Conditions: those that each theorem bears.
-/
import Derived.Test.YtkhaodbcnnlhaaaChain
namespace Go.Proofs.Ytkhaodbcnnlhaaa
open Go.ChangeShapes Go.WideShapes Go.ChangeAt Go.RowKit
set_option linter.unusedVariables false
set_option linter.unusedSimpArgs false
theorem some_of_ne {w : World} {base : Nat} {A : Option Addr} {q c : Nat} {R : List Nat} (h : Own w base 3 1 A q c (nats R)) (hq : R.length = q) (hR : R ≠ []) : ∃ g, A = some ⟨g, 0, none⟩ := by
  refine h.some_of fun h0 => hR (List.eq_nil_of_length_eq_zero ?_)
  rw [hq, h0]
set_option maxHeartbeats 6400000 in
set_option maxRecDepth 100000 in
theorem idue (A : Option Addr) (n c : Nat) (nx : List Int) (A2 : Option Addr) (m d : Nat) (ps : List Dat) {R : List Nat} (hR : dueP nx ps = R) (w : World) (hs : Sl w w.heap.size A (ints nx)) (hp : Sl w w.heap.size A2 (dats ps)) (hn : nx.length = n) (hm : ps.length = m) (hf : Fit nx ps) (hn4 : n ≤ 1048576) :
    Calls Try.prog 45 #[.agg #[.slice A n c, .slice A2 m d]] w (ChainP true R w) := by
  have HS := Lib.hid hs; have HP := Lib.hid hp; have HN := Lib.hid hn; have HM := Lib.hid hm; have HR := Lib.hid hR; have HF := Lib.hid hf
  have h13 : m ≤ 13 := by rw [← hm]; exact hf.len
  clear hs hp hn hm hR hf
  go_enter Try.func45, Try.ntmps45
  go_wp2
  go_loopw [9] (fun iv wr => ∃ k : Nat, k ≤ m ∧ iv = .int .i64 k ∧ Hid (dueA nx ps (ps.drop k) k = R) ∧ Blk wr w.heap.size #[.slice A n c, .slice A2 m d] 41 ∧ Below w.heap.size w wr) (fun iv _ => m - (intOf iv).toNat)
  case atStart => exact ⟨0, by omega, rfl, HR, Blk.new w _ _, by go_grown⟩
  case round =>
    obtain ⟨k, hk, rfl, hE, hx, hb⟩ := hrel
    have X := Lib.hid hx
    have B := Lib.hid hb
    have hszw := hb.size
    clear hx hb
    have x0 := X.out.get 0 rfl
    have x1 := X.out.get 1 rfl
    have hxl := X.out.lt
    by_cases hlt : k < m
    · obtain ⟨d', hd⟩ := fget_of_lt (xs := ps) (k := k) (by rw [HM.out]; exact hlt)
      have hdk := HF.out.ok _ (List.mem_of_getElem? hd)
      have hki : (0 : Int) ≤ (k : Int) := by omega
      have hkm : (k : Int) < (m : Int) := by omega
      obtain ⟨b, off, rfl, hbr, ⟨e0, e1, e2, e3, e4, e5, e6⟩⟩ := dats_elem ((HP.out.below B.out (Nat.le_refl _)).more B.out.size) hd
      have HD := Lib.hid hd
      clear hd
      obtain ⟨g0, g1, g2, g3, g4, g5, g6⟩ := d'
      have hb2 := datB_true hdk.1
      have hst0 := (okB_true hb2.2.1).1
      have hst1 := hdk.2
      change (0 : Int) ≤ g1 at hst0
      change g1 < (nx.length : Int) at hst1
      rw [HN.out] at hst1
      have hok : okB g0 = true := hb2.1
      clear hb2 hdk
      obtain ⟨s, rfl⟩ : ∃ s : Nat, g1 = (s : Int) := ⟨g1.toNat, by omega⟩
      obtain ⟨x, hx⟩ := fget_of_lt (xs := nx) (k := s) (by rw [HN.out]; omega)
      change World.cell? _ _ = some (.int .i64 g0) at e0
      change World.cell? _ _ = some (.int .i64 (s : Int)) at e1
      change World.cell? _ _ = some (.int .i64 g2) at e2
      change World.cell? _ _ = some (.bool g3) at e3
      change World.cell? _ _ = some (.bool g4) at e4
      change World.cell? _ _ = some (.bool g5) at e5
      change World.cell? _ _ = some (.string g6) at e6
      have hsn : s < n := by omega
      have HXX := Lib.hid hx
      clear hx
      cases g3 with
      | false =>
        go_wp2
        have Y := Lib.hid (Blk.new wr #[.int .i64 g0, .int .i64 (s : Int), .int .i64 g2, .bool false, .bool g4, .bool g5, .string g6] 45)
        have XA := Lib.hid (X.out.alloc (.cells #[.int .i64 g0, .int .i64 (s : Int), .int .i64 g2, .bool false, .bool g4, .bool g5, .string g6] 45))
        have BA := Lib.hid (B.out.alloc B.out.size (.cells #[.int .i64 g0, .int .i64 (s : Int), .int .i64 g2, .bool false, .bool g4, .bool g5, .string g6] 45))
        have y0 := Y.out.get 0 rfl
        have y1 := Y.out.get 1 rfl
        have y2 := Y.out.get 2 rfl
        have y3 := Y.out.get 3 rfl
        have y4 := Y.out.get 4 rfl
        have y5 := Y.out.get 5 rfl
        have y6 := Y.out.get 6 rfl
        have v0 := XA.out.get 0 rfl
        have v1 := XA.out.get 1 rfl
        have hyl := Y.out.lt
        have hvl := XA.out.lt
        clear e0 e1 e2 e3 e4 e5 e6 x0 x1
        refine wp_region_held_drew (S := fun w' => w'.cell? ⟨wr.heap.size, 0, none⟩ = some (.int .i64 g0) ∧ w'.cell? ⟨wr.heap.size, 1, none⟩ = some (.int .i64 (s : Int)) ∧ w'.cell? ⟨wr.heap.size, 2, none⟩ = some (.int .i64 g2) ∧ w'.cell? ⟨wr.heap.size, 3, none⟩ = some (.bool false) ∧ w'.cell? ⟨wr.heap.size, 4, none⟩ = some (.bool g4) ∧ w'.cell? ⟨wr.heap.size, 5, none⟩ = some (.bool g5) ∧ w'.cell? ⟨wr.heap.size, 6, none⟩ = some (.string g6) ∧ w'.cell? ⟨w.heap.size, 0, none⟩ = some (.slice A n c) ∧ w'.cell? ⟨w.heap.size, 1, none⟩ = some (.slice (some ⟨b, off, none⟩) m d)) (by kernel_rfl) (by first | exact ⟨y0, y1, y2, y3, y4, y5, y6, v0, v1⟩ | go_keep) (fun hHeld => ?_)
        refine wpAnyH_take (i := 0) (oi := ⟨some 14, _, _, _, _, _⟩) (v := ?_) rfl (by kernel_rfl) (by kernel_rfl) (by kernel_rfl) (fun _ _ _ h => h) (Or.inl ⟨by kernel_rfl, ?y1⟩) (by assumption) ?_
        case y1 => (intro w hSw; (try dsimp only at hSw); first | (go_simp; done) | (go_simp; with_reducible rfl))
        simp only [Act.put, List.setIfInBounds_toArray, List.set_cons_zero, List.set_cons_succ]
        refine wpAnyH_take (i := 1) (oi := ⟨some 15, _, _, _, _, _⟩) (v := ?_) rfl (by kernel_rfl) (by kernel_rfl) (by kernel_rfl) (fun _ _ _ h => h) (Or.inl ⟨by kernel_rfl, ?y2⟩) (by assumption) ?_
        case y2 => (intro w hSw; (try dsimp only at hSw); first | (go_simp; done) | (go_simp; with_reducible rfl))
        simp only [Act.put, List.setIfInBounds_toArray, List.set_cons_zero, List.set_cons_succ]
        refine wpAnyH_take (i := 2) (oi := ⟨some 16, _, _, _, _, _⟩) (v := ?_) rfl (by kernel_rfl) (by kernel_rfl) (by kernel_rfl) (fun _ _ _ h => h) (Or.inl ⟨by kernel_rfl, ?y3⟩) (by assumption) ?_
        case y3 => (intro w hSw; (try dsimp only at hSw); first | (go_simp; done) | (go_simp; with_reducible rfl))
        simp only [Act.put, List.setIfInBounds_toArray, List.set_cons_zero, List.set_cons_succ]
        refine wpAnyH_take (i := 3) (oi := ⟨some 17, _, _, _, _, _⟩) (v := undef) rfl (by kernel_rfl) (by kernel_rfl) (by kernel_rfl) (fun _ _ _ h => h) (Or.inr ⟨by kernel_rfl, rfl⟩) (by assumption) ?_
        simp only [Act.put, List.setIfInBounds_toArray, List.set_cons_zero, List.set_cons_succ]
        refine wpAnyH_take (i := 4) (oi := ⟨some 18, _, _, _, _, _⟩) (v := undef) rfl (by kernel_rfl) (by kernel_rfl) (by kernel_rfl) (fun _ _ _ h => h) (Or.inr ⟨by kernel_rfl, rfl⟩) (by assumption) ?_
        simp only [Act.put, List.setIfInBounds_toArray, List.set_cons_zero, List.set_cons_succ]
        refine wpAnyH_take (i := 5) (oi := ⟨some 19, _, _, _, _, _⟩) (v := undef) rfl (by kernel_rfl) (by kernel_rfl) (by kernel_rfl) (fun _ _ _ h => h) (Or.inr ⟨by kernel_rfl, rfl⟩) (by assumption) ?_
        simp only [Act.put, List.setIfInBounds_toArray, List.set_cons_zero, List.set_cons_succ]
        refine wpAnyH_take (i := 6) (oi := ⟨some 20, _, _, _, _, _⟩) (v := undef) rfl (by kernel_rfl) (by kernel_rfl) (by kernel_rfl) (fun _ _ _ h => h) (Or.inr ⟨by kernel_rfl, rfl⟩) (by assumption) ?_
        simp only [Act.put, List.setIfInBounds_toArray, List.set_cons_zero, List.set_cons_succ]
        refine wpAnyH_take (i := 7) (oi := ⟨some 21, _, _, _, _, _⟩) (v := undef) rfl (by kernel_rfl) (by kernel_rfl) (by kernel_rfl) (fun _ _ _ h => h) (Or.inr ⟨by kernel_rfl, rfl⟩) (by assumption) ?_
        simp only [Act.put, List.setIfInBounds_toArray, List.set_cons_zero, List.set_cons_succ]
        refine wpAnyH_take (i := 8) (oi := ⟨some 22, _, _, _, _, _⟩) (v := undef) rfl (by kernel_rfl) (by kernel_rfl) (by kernel_rfl) (fun _ _ _ h => h) (Or.inr ⟨by kernel_rfl, rfl⟩) (by assumption) ?_
        simp only [Act.put, List.setIfInBounds_toArray, List.set_cons_zero, List.set_cons_succ]
        refine wpAnyH_take (i := 9) (oi := ⟨some 23, _, _, _, _, _⟩) (v := undef) rfl (by kernel_rfl) (by kernel_rfl) (by kernel_rfl) (fun _ _ _ h => h) (Or.inr ⟨by kernel_rfl, rfl⟩) (by assumption) ?_
        simp only [Act.put, List.setIfInBounds_toArray, List.set_cons_zero, List.set_cons_succ]
        refine wpAnyH_take (i := 10) (oi := ⟨some 24, _, _, _, _, _⟩) (v := undef) rfl (by kernel_rfl) (by kernel_rfl) (by kernel_rfl) (fun _ _ _ h => h) (Or.inr ⟨by kernel_rfl, rfl⟩) (by assumption) ?_
        simp only [Act.put, List.setIfInBounds_toArray, List.set_cons_zero, List.set_cons_succ]
        refine wpAnyH_take (i := 11) (oi := ⟨some 25, _, _, _, _, _⟩) (v := undef) rfl (by kernel_rfl) (by kernel_rfl) (by kernel_rfl) (fun _ _ _ h => h) (Or.inr ⟨by kernel_rfl, rfl⟩) (by assumption) ?_
        simp only [Act.put, List.setIfInBounds_toArray, List.set_cons_zero, List.set_cons_succ]
        refine wpAnyH_take (i := 12) (oi := ⟨some 26, _, _, _, _, _⟩) (v := undef) rfl (by kernel_rfl) (by kernel_rfl) (by kernel_rfl) (fun _ _ _ h => h) (Or.inr ⟨by kernel_rfl, rfl⟩) (by assumption) ?_
        simp only [Act.put, List.setIfInBounds_toArray, List.set_cons_zero, List.set_cons_succ]
        refine wpAnyH_take (i := 13) (oi := ⟨some 27, _, _, _, _, _⟩) (v := undef) rfl (by kernel_rfl) (by kernel_rfl) (by kernel_rfl) (fun _ _ _ h => h) (Or.inr ⟨by kernel_rfl, rfl⟩) (by assumption) ?_
        simp only [Act.put, List.setIfInBounds_toArray, List.set_cons_zero, List.set_cons_succ]
        refine wpAnyH_take (i := 14) (oi := ⟨some 28, _, _, _, _, _⟩) (v := undef) rfl (by kernel_rfl) (by kernel_rfl) (by kernel_rfl) (fun _ _ _ h => h) (Or.inr ⟨by kernel_rfl, rfl⟩) (by assumption) ?_
        simp only [Act.put, List.setIfInBounds_toArray, List.set_cons_zero, List.set_cons_succ]
        refine wpAnyH_take (i := 15) (oi := ⟨some 29, _, _, _, _, _⟩) (v := undef) rfl (by kernel_rfl) (by kernel_rfl) (by kernel_rfl) (fun _ _ _ h => h) (Or.inr ⟨by kernel_rfl, rfl⟩) (by assumption) ?_
        simp only [Act.put, List.setIfInBounds_toArray, List.set_cons_zero, List.set_cons_succ]
        refine wpAnyH_take (i := 16) (oi := ⟨some 30, _, _, _, _, _⟩) (v := ?_) rfl (by kernel_rfl) (by kernel_rfl) (by kernel_rfl) (fun _ _ _ h => h) (Or.inl ⟨by kernel_rfl, ?y4⟩) (by assumption) ?_
        case y4 => (intro w hSw; (try dsimp only at hSw); first | (go_simp; done) | (go_simp; with_reducible rfl))
        simp only [Act.put, List.setIfInBounds_toArray, List.set_cons_zero, List.set_cons_succ]
        refine wpAnyH_done (by kernel_rfl) ?_ _
        clear y0 y1 y2 y3 y4 y5 y6 v0 v1
        have v0 := XA.out.drew.get 0 rfl
        have v1 := XA.out.drew.get 1 rfl
        have HE := Lib.hid ((due_no HD.out (.inl (rfl))).symm.trans hE.out)
        clear hE
        go_wp2
        go_roundw
        case rel => exact ⟨k + 1, by omega, by go_num, HE, XA.out.drew, BA.out.drew⟩
        case measure => simp [intOf]; omega
      | true =>
        cases g5 with
        | true =>
          go_wp2
          have Y := Lib.hid (Blk.new wr #[.int .i64 g0, .int .i64 (s : Int), .int .i64 g2, .bool true, .bool g4, .bool true, .string g6] 45)
          have XA := Lib.hid (X.out.alloc (.cells #[.int .i64 g0, .int .i64 (s : Int), .int .i64 g2, .bool true, .bool g4, .bool true, .string g6] 45))
          have BA := Lib.hid (B.out.alloc B.out.size (.cells #[.int .i64 g0, .int .i64 (s : Int), .int .i64 g2, .bool true, .bool g4, .bool true, .string g6] 45))
          have y0 := Y.out.get 0 rfl
          have y1 := Y.out.get 1 rfl
          have y2 := Y.out.get 2 rfl
          have y3 := Y.out.get 3 rfl
          have y4 := Y.out.get 4 rfl
          have y5 := Y.out.get 5 rfl
          have y6 := Y.out.get 6 rfl
          have v0 := XA.out.get 0 rfl
          have v1 := XA.out.get 1 rfl
          have hyl := Y.out.lt
          have hvl := XA.out.lt
          clear e0 e1 e2 e3 e4 e5 e6 x0 x1
          refine wp_region_held_drew (S := fun w' => w'.cell? ⟨wr.heap.size, 0, none⟩ = some (.int .i64 g0) ∧ w'.cell? ⟨wr.heap.size, 1, none⟩ = some (.int .i64 (s : Int)) ∧ w'.cell? ⟨wr.heap.size, 2, none⟩ = some (.int .i64 g2) ∧ w'.cell? ⟨wr.heap.size, 3, none⟩ = some (.bool true) ∧ w'.cell? ⟨wr.heap.size, 4, none⟩ = some (.bool g4) ∧ w'.cell? ⟨wr.heap.size, 5, none⟩ = some (.bool true) ∧ w'.cell? ⟨wr.heap.size, 6, none⟩ = some (.string g6) ∧ w'.cell? ⟨w.heap.size, 0, none⟩ = some (.slice A n c) ∧ w'.cell? ⟨w.heap.size, 1, none⟩ = some (.slice (some ⟨b, off, none⟩) m d)) (by kernel_rfl) (by first | exact ⟨y0, y1, y2, y3, y4, y5, y6, v0, v1⟩ | go_keep) (fun hHeld => ?_)
          refine wpAnyH_take (i := 0) (oi := ⟨some 14, _, _, _, _, _⟩) (v := ?_) rfl (by kernel_rfl) (by kernel_rfl) (by kernel_rfl) (fun _ _ _ h => h) (Or.inl ⟨by kernel_rfl, ?y5⟩) (by assumption) ?_
          case y5 => (intro w hSw; (try dsimp only at hSw); first | (go_simp; done) | (go_simp; with_reducible rfl))
          simp only [Act.put, List.setIfInBounds_toArray, List.set_cons_zero, List.set_cons_succ]
          refine wpAnyH_take (i := 1) (oi := ⟨some 15, _, _, _, _, _⟩) (v := ?_) rfl (by kernel_rfl) (by kernel_rfl) (by kernel_rfl) (fun _ _ _ h => h) (Or.inl ⟨by kernel_rfl, ?y6⟩) (by assumption) ?_
          case y6 => (intro w hSw; (try dsimp only at hSw); first | (go_simp; done) | (go_simp; with_reducible rfl))
          simp only [Act.put, List.setIfInBounds_toArray, List.set_cons_zero, List.set_cons_succ]
          refine wpAnyH_take (i := 2) (oi := ⟨some 16, _, _, _, _, _⟩) (v := ?_) rfl (by kernel_rfl) (by kernel_rfl) (by kernel_rfl) (fun _ _ _ h => h) (Or.inl ⟨by kernel_rfl, ?y7⟩) (by assumption) ?_
          case y7 => (intro w hSw; (try dsimp only at hSw); first | (go_simp; done) | (go_simp; with_reducible rfl))
          simp only [Act.put, List.setIfInBounds_toArray, List.set_cons_zero, List.set_cons_succ]
          refine wpAnyH_take (i := 3) (oi := ⟨some 17, _, _, _, _, _⟩) (v := ?_) rfl (by kernel_rfl) (by kernel_rfl) (by kernel_rfl) (fun _ _ _ h => h) (Or.inl ⟨by kernel_rfl, ?y8⟩) (by assumption) ?_
          case y8 => (intro w hSw; (try dsimp only at hSw); first | (go_simp; done) | (go_simp; with_reducible rfl))
          simp only [Act.put, List.setIfInBounds_toArray, List.set_cons_zero, List.set_cons_succ]
          refine wpAnyH_take (i := 4) (oi := ⟨some 18, _, _, _, _, _⟩) (v := ?_) rfl (by kernel_rfl) (by kernel_rfl) (by kernel_rfl) (fun _ _ _ h => h) (Or.inl ⟨by kernel_rfl, ?y9⟩) (by assumption) ?_
          case y9 => (intro w hSw; (try dsimp only at hSw); first | (go_simp; done) | (go_simp; with_reducible rfl))
          simp only [Act.put, List.setIfInBounds_toArray, List.set_cons_zero, List.set_cons_succ]
          refine wpAnyH_take (i := 5) (oi := ⟨some 19, _, _, _, _, _⟩) (v := ?_) rfl (by kernel_rfl) (by kernel_rfl) (by kernel_rfl) (fun _ _ _ h => h) (Or.inl ⟨by kernel_rfl, ?y10⟩) (by assumption) ?_
          case y10 => (intro w hSw; (try dsimp only at hSw); first | (go_simp; done) | (go_simp; with_reducible rfl))
          simp only [Act.put, List.setIfInBounds_toArray, List.set_cons_zero, List.set_cons_succ]
          refine wpAnyH_take (i := 6) (oi := ⟨some 20, _, _, _, _, _⟩) (v := undef) rfl (by kernel_rfl) (by kernel_rfl) (by kernel_rfl) (fun _ _ _ h => h) (Or.inr ⟨by kernel_rfl, rfl⟩) (by assumption) ?_
          simp only [Act.put, List.setIfInBounds_toArray, List.set_cons_zero, List.set_cons_succ]
          refine wpAnyH_take (i := 7) (oi := ⟨some 21, _, _, _, _, _⟩) (v := undef) rfl (by kernel_rfl) (by kernel_rfl) (by kernel_rfl) (fun _ _ _ h => h) (Or.inr ⟨by kernel_rfl, rfl⟩) (by assumption) ?_
          simp only [Act.put, List.setIfInBounds_toArray, List.set_cons_zero, List.set_cons_succ]
          refine wpAnyH_take (i := 8) (oi := ⟨some 22, _, _, _, _, _⟩) (v := undef) rfl (by kernel_rfl) (by kernel_rfl) (by kernel_rfl) (fun _ _ _ h => h) (Or.inr ⟨by kernel_rfl, rfl⟩) (by assumption) ?_
          simp only [Act.put, List.setIfInBounds_toArray, List.set_cons_zero, List.set_cons_succ]
          refine wpAnyH_take (i := 9) (oi := ⟨some 23, _, _, _, _, _⟩) (v := undef) rfl (by kernel_rfl) (by kernel_rfl) (by kernel_rfl) (fun _ _ _ h => h) (Or.inr ⟨by kernel_rfl, rfl⟩) (by assumption) ?_
          simp only [Act.put, List.setIfInBounds_toArray, List.set_cons_zero, List.set_cons_succ]
          refine wpAnyH_take (i := 10) (oi := ⟨some 24, _, _, _, _, _⟩) (v := undef) rfl (by kernel_rfl) (by kernel_rfl) (by kernel_rfl) (fun _ _ _ h => h) (Or.inr ⟨by kernel_rfl, rfl⟩) (by assumption) ?_
          simp only [Act.put, List.setIfInBounds_toArray, List.set_cons_zero, List.set_cons_succ]
          refine wpAnyH_take (i := 11) (oi := ⟨some 25, _, _, _, _, _⟩) (v := undef) rfl (by kernel_rfl) (by kernel_rfl) (by kernel_rfl) (fun _ _ _ h => h) (Or.inr ⟨by kernel_rfl, rfl⟩) (by assumption) ?_
          simp only [Act.put, List.setIfInBounds_toArray, List.set_cons_zero, List.set_cons_succ]
          refine wpAnyH_take (i := 12) (oi := ⟨some 26, _, _, _, _, _⟩) (v := undef) rfl (by kernel_rfl) (by kernel_rfl) (by kernel_rfl) (fun _ _ _ h => h) (Or.inr ⟨by kernel_rfl, rfl⟩) (by assumption) ?_
          simp only [Act.put, List.setIfInBounds_toArray, List.set_cons_zero, List.set_cons_succ]
          refine wpAnyH_take (i := 13) (oi := ⟨some 27, _, _, _, _, _⟩) (v := undef) rfl (by kernel_rfl) (by kernel_rfl) (by kernel_rfl) (fun _ _ _ h => h) (Or.inr ⟨by kernel_rfl, rfl⟩) (by assumption) ?_
          simp only [Act.put, List.setIfInBounds_toArray, List.set_cons_zero, List.set_cons_succ]
          refine wpAnyH_take (i := 14) (oi := ⟨some 28, _, _, _, _, _⟩) (v := undef) rfl (by kernel_rfl) (by kernel_rfl) (by kernel_rfl) (fun _ _ _ h => h) (Or.inr ⟨by kernel_rfl, rfl⟩) (by assumption) ?_
          simp only [Act.put, List.setIfInBounds_toArray, List.set_cons_zero, List.set_cons_succ]
          refine wpAnyH_take (i := 15) (oi := ⟨some 29, _, _, _, _, _⟩) (v := ?_) rfl (by kernel_rfl) (by kernel_rfl) (by kernel_rfl) (fun _ _ _ h => h) (Or.inl ⟨by kernel_rfl, ?y11⟩) (by assumption) ?_
          case y11 => (intro w hSw; (try dsimp only at hSw); first | (go_simp; done) | (go_simp; with_reducible rfl))
          simp only [Act.put, List.setIfInBounds_toArray, List.set_cons_zero, List.set_cons_succ]
          refine wpAnyH_take (i := 16) (oi := ⟨some 30, _, _, _, _, _⟩) (v := ?_) rfl (by kernel_rfl) (by kernel_rfl) (by kernel_rfl) (fun _ _ _ h => h) (Or.inl ⟨by kernel_rfl, ?y12⟩) (by assumption) ?_
          case y12 => (intro w hSw; (try dsimp only at hSw); first | (go_simp; done) | (go_simp; with_reducible rfl))
          simp only [Act.put, List.setIfInBounds_toArray, List.set_cons_zero, List.set_cons_succ]
          refine wpAnyH_done (by kernel_rfl) ?_ _
          clear y0 y1 y2 y3 y4 y5 y6 v0 v1
          have hT := Lib.hid (by simp [turnB] : turnB nx ⟨g0, (s : Int), g2, true, g4, true, g6⟩ = true)
          obtain ⟨R1, hR1⟩ : ∃ R1, chainP ps k = R1 := ⟨_, rfl⟩
          have HR1 := Lib.hid hR1
          have v0 := XA.out.drew.get 0 rfl
          have v1 := XA.out.drew.get 1 rfl
          go_wp2_with fail
          refine (ichain _ _ _ ps k hR1 _ ((HP.out.below BA.out.drew (Nat.le_refl _)).more BA.out.drew.size) HM.out h13 HD.out hok rfl).mono ?_
          rintro e w5 ⟨A5, q5, c5, rfl, hq5, hnl, o5, b5⟩
          have B5 := Lib.hid (bstep BA.out.drew b5 BA.out.drew.size)
          have X5 := Lib.hid (XA.out.drew.below b5 XA.out.drew.lt)
          have O5 := Lib.hid (o5.lower BA.out.drew.size)
          clear o5 b5 hR1 v0 v1
          have x0 := X5.out.get 0 rfl
          have x1 := X5.out.get 1 rfl
          have hx5 := X5.out.lt
          by_cases hz : R1 = []
          · subst hz
            obtain ⟨rfl, rfl⟩ := hnl rfl rfl
            have hq0 : q5 = 0 := by rw [← hq5]; rfl
            subst hq0
            clear hnl hq5
            have HE := Lib.hid ((due_no HD.out (.inr HR1.out)).symm.trans hE.out)
            clear hE
            go_wp2
            go_roundw
            case rel => exact ⟨k + 1, by omega, by go_num, HE, X5.out, B5.out⟩
            case measure => simp [intOf]; omega
          · have hz2 := Lib.hid hz
            clear hz
            have HE := Lib.hid ((due_yes HD.out hT.out (by rw [HR1.out]; exact hz2.out)).symm.trans hE.out)
            clear hE
            have HRR := Lib.hid (HR1.out.symm.trans HE.out : R1 = R)
            obtain ⟨g5', rfl⟩ := some_of_ne O5.out hq5 hz2.out
            have hq0 : 0 < q5 := by rcases Nat.eq_zero_or_pos q5 with h | h; (· exact absurd (List.eq_nil_of_length_eq_zero (hq5.trans h)) hz2.out); exact h
            have hq0' : (0 : Int) < (q5 : Int) := by omega
            clear hnl
            go_wp2
            go_ret
            exact ⟨some ⟨g5', 0, none⟩, q5, c5, rfl, by rw [← HRR.out]; exact hq5, (fun _ h => absurd (HRR.out.trans h) hz2.out), by rw [← HRR.out]; exact O5.out, B5.out⟩
        | false =>
          obtain ⟨bn, on, rfl, hbn, hcn⟩ := ((HS.out.below B.out (Nat.le_refl _)).more B.out.size).at_ (j := s) (by rw [ints_len, HN.out]; exact hsn)
          have zc0 := hcn s _ (ints_at_ HXX.out)
          clear hcn
          have hs0 : (0 : Int) ≤ (s : Int) := by omega
          have hsn' : (s : Int) < (n : Int) := by omega
          by_cases hsx : g2 = x
          · subst hsx
            go_wp2
            have Y := Lib.hid (Blk.new wr #[.int .i64 g0, .int .i64 (s : Int), .int .i64 g2, .bool true, .bool g4, .bool false, .string g6] 45)
            have XA := Lib.hid (X.out.alloc (.cells #[.int .i64 g0, .int .i64 (s : Int), .int .i64 g2, .bool true, .bool g4, .bool false, .string g6] 45))
            have BA := Lib.hid (B.out.alloc B.out.size (.cells #[.int .i64 g0, .int .i64 (s : Int), .int .i64 g2, .bool true, .bool g4, .bool false, .string g6] 45))
            have y0 := Y.out.get 0 rfl
            have y1 := Y.out.get 1 rfl
            have y2 := Y.out.get 2 rfl
            have y3 := Y.out.get 3 rfl
            have y4 := Y.out.get 4 rfl
            have y5 := Y.out.get 5 rfl
            have y6 := Y.out.get 6 rfl
            have v0 := XA.out.get 0 rfl
            have v1 := XA.out.get 1 rfl
            have hyl := Y.out.lt
            have hvl := XA.out.lt
            clear e0 e1 e2 e3 e4 e5 e6 x0 x1
            have zc := (World.cell?_alloc_lt wr (.cells #[.int .i64 g0, .int .i64 (s : Int), .int .i64 g2, .bool true, .bool g4, .bool false, .string g6] 45) ⟨bn, on + s, none⟩ hbn).trans zc0
            clear zc0
            have heq : (g2 == g2) = true := by simp
            refine wp_region_held_drew (S := fun w' => w'.cell? ⟨wr.heap.size, 0, none⟩ = some (.int .i64 g0) ∧ w'.cell? ⟨wr.heap.size, 1, none⟩ = some (.int .i64 (s : Int)) ∧ w'.cell? ⟨wr.heap.size, 2, none⟩ = some (.int .i64 g2) ∧ w'.cell? ⟨wr.heap.size, 3, none⟩ = some (.bool true) ∧ w'.cell? ⟨wr.heap.size, 4, none⟩ = some (.bool g4) ∧ w'.cell? ⟨wr.heap.size, 5, none⟩ = some (.bool false) ∧ w'.cell? ⟨wr.heap.size, 6, none⟩ = some (.string g6) ∧ w'.cell? ⟨w.heap.size, 0, none⟩ = some (.slice (some ⟨bn, on, none⟩) n c) ∧ w'.cell? ⟨w.heap.size, 1, none⟩ = some (.slice (some ⟨b, off, none⟩) m d) ∧ w'.cell? ⟨bn, on + s, none⟩ = some (.int .i64 g2)) (by kernel_rfl) (by first | exact ⟨y0, y1, y2, y3, y4, y5, y6, v0, v1, zc⟩ | go_keep) (fun hHeld => ?_)
            refine wpAnyH_take (i := 0) (oi := ⟨some 14, _, _, _, _, _⟩) (v := ?_) rfl (by kernel_rfl) (by kernel_rfl) (by kernel_rfl) (fun _ _ _ h => h) (Or.inl ⟨by kernel_rfl, ?y13⟩) (by assumption) ?_
            case y13 => (intro w hSw; (try dsimp only at hSw); first | (go_simp; done) | (go_simp; with_reducible rfl))
            simp only [Act.put, List.setIfInBounds_toArray, List.set_cons_zero, List.set_cons_succ]
            refine wpAnyH_take (i := 1) (oi := ⟨some 15, _, _, _, _, _⟩) (v := ?_) rfl (by kernel_rfl) (by kernel_rfl) (by kernel_rfl) (fun _ _ _ h => h) (Or.inl ⟨by kernel_rfl, ?y14⟩) (by assumption) ?_
            case y14 => (intro w hSw; (try dsimp only at hSw); first | (go_simp; done) | (go_simp; with_reducible rfl))
            simp only [Act.put, List.setIfInBounds_toArray, List.set_cons_zero, List.set_cons_succ]
            refine wpAnyH_take (i := 2) (oi := ⟨some 16, _, _, _, _, _⟩) (v := ?_) rfl (by kernel_rfl) (by kernel_rfl) (by kernel_rfl) (fun _ _ _ h => h) (Or.inl ⟨by kernel_rfl, ?y15⟩) (by assumption) ?_
            case y15 => (intro w hSw; (try dsimp only at hSw); first | (go_simp; done) | (go_simp; with_reducible rfl))
            simp only [Act.put, List.setIfInBounds_toArray, List.set_cons_zero, List.set_cons_succ]
            refine wpAnyH_take (i := 3) (oi := ⟨some 17, _, _, _, _, _⟩) (v := ?_) rfl (by kernel_rfl) (by kernel_rfl) (by kernel_rfl) (fun _ _ _ h => h) (Or.inl ⟨by kernel_rfl, ?y16⟩) (by assumption) ?_
            case y16 => (intro w hSw; (try dsimp only at hSw); first | (go_simp; done) | (go_simp; with_reducible rfl))
            simp only [Act.put, List.setIfInBounds_toArray, List.set_cons_zero, List.set_cons_succ]
            refine wpAnyH_take (i := 4) (oi := ⟨some 18, _, _, _, _, _⟩) (v := ?_) rfl (by kernel_rfl) (by kernel_rfl) (by kernel_rfl) (fun _ _ _ h => h) (Or.inl ⟨by kernel_rfl, ?y17⟩) (by assumption) ?_
            case y17 => (intro w hSw; (try dsimp only at hSw); first | (go_simp; done) | (go_simp; with_reducible rfl))
            simp only [Act.put, List.setIfInBounds_toArray, List.set_cons_zero, List.set_cons_succ]
            refine wpAnyH_take (i := 5) (oi := ⟨some 19, _, _, _, _, _⟩) (v := ?_) rfl (by kernel_rfl) (by kernel_rfl) (by kernel_rfl) (fun _ _ _ h => h) (Or.inl ⟨by kernel_rfl, ?y18⟩) (by assumption) ?_
            case y18 => (intro w hSw; (try dsimp only at hSw); first | (go_simp; done) | (go_simp; with_reducible rfl))
            simp only [Act.put, List.setIfInBounds_toArray, List.set_cons_zero, List.set_cons_succ]
            refine wpAnyH_take (i := 6) (oi := ⟨some 20, _, _, _, _, _⟩) (v := ?_) rfl (by kernel_rfl) (by kernel_rfl) (by kernel_rfl) (fun _ _ _ h => h) (Or.inl ⟨by kernel_rfl, ?y19⟩) (by assumption) ?_
            case y19 => (intro w hSw; (try dsimp only at hSw); first | (go_simp; done) | (go_simp; with_reducible rfl))
            simp only [Act.put, List.setIfInBounds_toArray, List.set_cons_zero, List.set_cons_succ]
            refine wpAnyH_take (i := 7) (oi := ⟨some 21, _, _, _, _, _⟩) (v := ?_) rfl (by kernel_rfl) (by kernel_rfl) (by kernel_rfl) (fun _ _ _ h => h) (Or.inl ⟨by kernel_rfl, ?y20⟩) (by assumption) ?_
            case y20 => (intro w hSw; (try dsimp only at hSw); first | (go_simp; done) | (go_simp; with_reducible rfl))
            simp only [Act.put, List.setIfInBounds_toArray, List.set_cons_zero, List.set_cons_succ]
            refine wpAnyH_take (i := 8) (oi := ⟨some 22, _, _, _, _, _⟩) (v := ?_) rfl (by kernel_rfl) (by kernel_rfl) (by kernel_rfl) (fun _ _ _ h => h) (Or.inl ⟨by kernel_rfl, ?y21⟩) (by assumption) ?_
            case y21 => (intro w hSw; (try dsimp only at hSw); first | (go_simp; done) | (go_simp; with_reducible rfl))
            simp only [Act.put, List.setIfInBounds_toArray, List.set_cons_zero, List.set_cons_succ]
            refine wpAnyH_take (i := 9) (oi := ⟨some 23, _, _, _, _, _⟩) (v := ?_) rfl (by kernel_rfl) (by kernel_rfl) (by kernel_rfl) (fun _ _ _ h => h) (Or.inl ⟨by kernel_rfl, ?y22⟩) (by assumption) ?_
            case y22 => (intro w hSw; (try dsimp only at hSw); first | (go_simp; done) | (go_simp; with_reducible rfl))
            simp only [Act.put, List.setIfInBounds_toArray, List.set_cons_zero, List.set_cons_succ]
            refine wpAnyH_take (i := 10) (oi := ⟨some 24, _, _, _, _, _⟩) (v := ?_) rfl (by kernel_rfl) (by kernel_rfl) (by kernel_rfl) (fun _ _ _ h => h) (Or.inl ⟨by kernel_rfl, ?y23⟩) (by assumption) ?_
            case y23 => (intro w hSw; (try dsimp only at hSw); first | (go_simp; done) | (go_simp; with_reducible rfl))
            simp only [Act.put, List.setIfInBounds_toArray, List.set_cons_zero, List.set_cons_succ]
            refine wpAnyH_take (i := 11) (oi := ⟨some 25, _, _, _, _, _⟩) (v := ?_) rfl (by kernel_rfl) (by kernel_rfl) (by kernel_rfl) (fun _ _ _ h => h) (Or.inl ⟨by kernel_rfl, ?y24⟩) (by assumption) ?_
            case y24 => (intro w hSw; (try dsimp only at hSw); first | (go_simp; done) | (go_simp; with_reducible rfl))
            simp only [Act.put, List.setIfInBounds_toArray, List.set_cons_zero, List.set_cons_succ]
            refine wpAnyH_take (i := 12) (oi := ⟨some 26, _, _, _, _, _⟩) (v := ?_) rfl (by kernel_rfl) (by kernel_rfl) (by kernel_rfl) (fun _ _ _ h => h) (Or.inl ⟨by kernel_rfl, ?y25⟩) (by assumption) ?_
            case y25 => (intro w hSw; (try dsimp only at hSw); first | (go_simp; done) | (go_simp; with_reducible rfl))
            simp only [Act.put, List.setIfInBounds_toArray, List.set_cons_zero, List.set_cons_succ]
            refine wpAnyH_take (i := 13) (oi := ⟨some 27, _, _, _, _, _⟩) (v := ?_) rfl (by kernel_rfl) (by kernel_rfl) (by kernel_rfl) (fun _ _ _ h => h) (Or.inl ⟨by kernel_rfl, ?y26⟩) (by assumption) ?_
            case y26 => (intro w hSw; (try dsimp only at hSw); first | (go_simp; done) | (go_simp; with_reducible rfl))
            simp only [Act.put, List.setIfInBounds_toArray, List.set_cons_zero, List.set_cons_succ]
            refine wpAnyH_take (i := 14) (oi := ⟨some 28, _, _, _, _, _⟩) (v := ?_) rfl (by kernel_rfl) (by kernel_rfl) (by kernel_rfl) (fun _ _ _ h => h) (Or.inl ⟨by kernel_rfl, ?y27⟩) (by assumption) ?_
            case y27 => (intro w hSw; (try dsimp only at hSw); first | (go_simp; done) | (go_simp; with_reducible rfl))
            simp only [Act.put, List.setIfInBounds_toArray, List.set_cons_zero, List.set_cons_succ]
            refine wpAnyH_take (i := 15) (oi := ⟨some 29, _, _, _, _, _⟩) (v := ?_) rfl (by kernel_rfl) (by kernel_rfl) (by kernel_rfl) (fun _ _ _ h => h) (Or.inl ⟨by kernel_rfl, ?y28⟩) (by assumption) ?_
            case y28 => (intro w hSw; (try dsimp only at hSw); first | (go_simp; done) | (go_simp; with_reducible rfl))
            simp only [Act.put, List.setIfInBounds_toArray, List.set_cons_zero, List.set_cons_succ]
            refine wpAnyH_take (i := 16) (oi := ⟨some 30, _, _, _, _, _⟩) (v := ?_) rfl (by kernel_rfl) (by kernel_rfl) (by kernel_rfl) (fun _ _ _ h => h) (Or.inl ⟨by kernel_rfl, ?y29⟩) (by assumption) ?_
            case y29 => (intro w hSw; (try dsimp only at hSw); first | (go_simp; done) | (go_simp; with_reducible rfl))
            simp only [Act.put, List.setIfInBounds_toArray, List.set_cons_zero, List.set_cons_succ]
            refine wpAnyH_done (by kernel_rfl) ?_ _
            clear y0 y1 y2 y3 y4 y5 y6 v0 v1 zc
            have hT := Lib.hid (by simp [turnB, HXX.out] : turnB nx ⟨g0, (s : Int), g2, true, g4, false, g6⟩ = true)
            obtain ⟨R1, hR1⟩ : ∃ R1, chainP ps k = R1 := ⟨_, rfl⟩
            have HR1 := Lib.hid hR1
            have v0 := XA.out.drew.get 0 rfl
            have v1 := XA.out.drew.get 1 rfl
            go_wp2_with fail
            refine (ichain _ _ _ ps k hR1 _ ((HP.out.below BA.out.drew (Nat.le_refl _)).more BA.out.drew.size) HM.out h13 HD.out hok rfl).mono ?_
            rintro e w5 ⟨A5, q5, c5, rfl, hq5, hnl, o5, b5⟩
            have B5 := Lib.hid (bstep BA.out.drew b5 BA.out.drew.size)
            have X5 := Lib.hid (XA.out.drew.below b5 XA.out.drew.lt)
            have O5 := Lib.hid (o5.lower BA.out.drew.size)
            clear o5 b5 hR1 v0 v1
            have x0 := X5.out.get 0 rfl
            have x1 := X5.out.get 1 rfl
            have hx5 := X5.out.lt
            by_cases hz : R1 = []
            · subst hz
              obtain ⟨rfl, rfl⟩ := hnl rfl rfl
              have hq0 : q5 = 0 := by rw [← hq5]; rfl
              subst hq0
              clear hnl hq5
              have HE := Lib.hid ((due_no HD.out (.inr HR1.out)).symm.trans hE.out)
              clear hE
              go_wp2
              go_roundw
              case rel => exact ⟨k + 1, by omega, by go_num, HE, X5.out, B5.out⟩
              case measure => simp [intOf]; omega
            · have hz2 := Lib.hid hz
              clear hz
              have HE := Lib.hid ((due_yes HD.out hT.out (by rw [HR1.out]; exact hz2.out)).symm.trans hE.out)
              clear hE
              have HRR := Lib.hid (HR1.out.symm.trans HE.out : R1 = R)
              obtain ⟨g5', rfl⟩ := some_of_ne O5.out hq5 hz2.out
              have hq0 : 0 < q5 := by rcases Nat.eq_zero_or_pos q5 with h | h; (· exact absurd (List.eq_nil_of_length_eq_zero (hq5.trans h)) hz2.out); exact h
              have hq0' : (0 : Int) < (q5 : Int) := by omega
              clear hnl
              go_wp2
              go_ret
              exact ⟨some ⟨g5', 0, none⟩, q5, c5, rfl, by rw [← HRR.out]; exact hq5, (fun _ h => absurd (HRR.out.trans h) hz2.out), by rw [← HRR.out]; exact O5.out, B5.out⟩
          · have heq : (g2 == x) = false := by simpa using hsx
            go_wp2
            have Y := Lib.hid (Blk.new wr #[.int .i64 g0, .int .i64 (s : Int), .int .i64 g2, .bool true, .bool g4, .bool false, .string g6] 45)
            have XA := Lib.hid (X.out.alloc (.cells #[.int .i64 g0, .int .i64 (s : Int), .int .i64 g2, .bool true, .bool g4, .bool false, .string g6] 45))
            have BA := Lib.hid (B.out.alloc B.out.size (.cells #[.int .i64 g0, .int .i64 (s : Int), .int .i64 g2, .bool true, .bool g4, .bool false, .string g6] 45))
            have y0 := Y.out.get 0 rfl
            have y1 := Y.out.get 1 rfl
            have y2 := Y.out.get 2 rfl
            have y3 := Y.out.get 3 rfl
            have y4 := Y.out.get 4 rfl
            have y5 := Y.out.get 5 rfl
            have y6 := Y.out.get 6 rfl
            have v0 := XA.out.get 0 rfl
            have v1 := XA.out.get 1 rfl
            have hyl := Y.out.lt
            have hvl := XA.out.lt
            clear e0 e1 e2 e3 e4 e5 e6 x0 x1
            have zc := (World.cell?_alloc_lt wr (.cells #[.int .i64 g0, .int .i64 (s : Int), .int .i64 g2, .bool true, .bool g4, .bool false, .string g6] 45) ⟨bn, on + s, none⟩ hbn).trans zc0
            clear zc0
            refine wp_region_held_drew (S := fun w' => w'.cell? ⟨wr.heap.size, 0, none⟩ = some (.int .i64 g0) ∧ w'.cell? ⟨wr.heap.size, 1, none⟩ = some (.int .i64 (s : Int)) ∧ w'.cell? ⟨wr.heap.size, 2, none⟩ = some (.int .i64 g2) ∧ w'.cell? ⟨wr.heap.size, 3, none⟩ = some (.bool true) ∧ w'.cell? ⟨wr.heap.size, 4, none⟩ = some (.bool g4) ∧ w'.cell? ⟨wr.heap.size, 5, none⟩ = some (.bool false) ∧ w'.cell? ⟨wr.heap.size, 6, none⟩ = some (.string g6) ∧ w'.cell? ⟨w.heap.size, 0, none⟩ = some (.slice (some ⟨bn, on, none⟩) n c) ∧ w'.cell? ⟨w.heap.size, 1, none⟩ = some (.slice (some ⟨b, off, none⟩) m d) ∧ w'.cell? ⟨bn, on + s, none⟩ = some (.int .i64 x)) (by kernel_rfl) (by first | exact ⟨y0, y1, y2, y3, y4, y5, y6, v0, v1, zc⟩ | go_keep) (fun hHeld => ?_)
            refine wpAnyH_take (i := 0) (oi := ⟨some 14, _, _, _, _, _⟩) (v := ?_) rfl (by kernel_rfl) (by kernel_rfl) (by kernel_rfl) (fun _ _ _ h => h) (Or.inl ⟨by kernel_rfl, ?y30⟩) (by assumption) ?_
            case y30 => (intro w hSw; (try dsimp only at hSw); first | (go_simp; done) | (go_simp; with_reducible rfl))
            simp only [Act.put, List.setIfInBounds_toArray, List.set_cons_zero, List.set_cons_succ]
            refine wpAnyH_take (i := 1) (oi := ⟨some 15, _, _, _, _, _⟩) (v := ?_) rfl (by kernel_rfl) (by kernel_rfl) (by kernel_rfl) (fun _ _ _ h => h) (Or.inl ⟨by kernel_rfl, ?y31⟩) (by assumption) ?_
            case y31 => (intro w hSw; (try dsimp only at hSw); first | (go_simp; done) | (go_simp; with_reducible rfl))
            simp only [Act.put, List.setIfInBounds_toArray, List.set_cons_zero, List.set_cons_succ]
            refine wpAnyH_take (i := 2) (oi := ⟨some 16, _, _, _, _, _⟩) (v := ?_) rfl (by kernel_rfl) (by kernel_rfl) (by kernel_rfl) (fun _ _ _ h => h) (Or.inl ⟨by kernel_rfl, ?y32⟩) (by assumption) ?_
            case y32 => (intro w hSw; (try dsimp only at hSw); first | (go_simp; done) | (go_simp; with_reducible rfl))
            simp only [Act.put, List.setIfInBounds_toArray, List.set_cons_zero, List.set_cons_succ]
            refine wpAnyH_take (i := 3) (oi := ⟨some 17, _, _, _, _, _⟩) (v := ?_) rfl (by kernel_rfl) (by kernel_rfl) (by kernel_rfl) (fun _ _ _ h => h) (Or.inl ⟨by kernel_rfl, ?y33⟩) (by assumption) ?_
            case y33 => (intro w hSw; (try dsimp only at hSw); first | (go_simp; done) | (go_simp; with_reducible rfl))
            simp only [Act.put, List.setIfInBounds_toArray, List.set_cons_zero, List.set_cons_succ]
            refine wpAnyH_take (i := 4) (oi := ⟨some 18, _, _, _, _, _⟩) (v := ?_) rfl (by kernel_rfl) (by kernel_rfl) (by kernel_rfl) (fun _ _ _ h => h) (Or.inl ⟨by kernel_rfl, ?y34⟩) (by assumption) ?_
            case y34 => (intro w hSw; (try dsimp only at hSw); first | (go_simp; done) | (go_simp; with_reducible rfl))
            simp only [Act.put, List.setIfInBounds_toArray, List.set_cons_zero, List.set_cons_succ]
            refine wpAnyH_take (i := 5) (oi := ⟨some 19, _, _, _, _, _⟩) (v := ?_) rfl (by kernel_rfl) (by kernel_rfl) (by kernel_rfl) (fun _ _ _ h => h) (Or.inl ⟨by kernel_rfl, ?y35⟩) (by assumption) ?_
            case y35 => (intro w hSw; (try dsimp only at hSw); first | (go_simp; done) | (go_simp; with_reducible rfl))
            simp only [Act.put, List.setIfInBounds_toArray, List.set_cons_zero, List.set_cons_succ]
            refine wpAnyH_take (i := 6) (oi := ⟨some 20, _, _, _, _, _⟩) (v := ?_) rfl (by kernel_rfl) (by kernel_rfl) (by kernel_rfl) (fun _ _ _ h => h) (Or.inl ⟨by kernel_rfl, ?y36⟩) (by assumption) ?_
            case y36 => (intro w hSw; (try dsimp only at hSw); first | (go_simp; done) | (go_simp; with_reducible rfl))
            simp only [Act.put, List.setIfInBounds_toArray, List.set_cons_zero, List.set_cons_succ]
            refine wpAnyH_take (i := 7) (oi := ⟨some 21, _, _, _, _, _⟩) (v := ?_) rfl (by kernel_rfl) (by kernel_rfl) (by kernel_rfl) (fun _ _ _ h => h) (Or.inl ⟨by kernel_rfl, ?y37⟩) (by assumption) ?_
            case y37 => (intro w hSw; (try dsimp only at hSw); first | (go_simp; done) | (go_simp; with_reducible rfl))
            simp only [Act.put, List.setIfInBounds_toArray, List.set_cons_zero, List.set_cons_succ]
            refine wpAnyH_take (i := 8) (oi := ⟨some 22, _, _, _, _, _⟩) (v := ?_) rfl (by kernel_rfl) (by kernel_rfl) (by kernel_rfl) (fun _ _ _ h => h) (Or.inl ⟨by kernel_rfl, ?y38⟩) (by assumption) ?_
            case y38 => (intro w hSw; (try dsimp only at hSw); first | (go_simp; done) | (go_simp; with_reducible rfl))
            simp only [Act.put, List.setIfInBounds_toArray, List.set_cons_zero, List.set_cons_succ]
            refine wpAnyH_take (i := 9) (oi := ⟨some 23, _, _, _, _, _⟩) (v := ?_) rfl (by kernel_rfl) (by kernel_rfl) (by kernel_rfl) (fun _ _ _ h => h) (Or.inl ⟨by kernel_rfl, ?y39⟩) (by assumption) ?_
            case y39 => (intro w hSw; (try dsimp only at hSw); first | (go_simp; done) | (go_simp; with_reducible rfl))
            simp only [Act.put, List.setIfInBounds_toArray, List.set_cons_zero, List.set_cons_succ]
            refine wpAnyH_take (i := 10) (oi := ⟨some 24, _, _, _, _, _⟩) (v := ?_) rfl (by kernel_rfl) (by kernel_rfl) (by kernel_rfl) (fun _ _ _ h => h) (Or.inl ⟨by kernel_rfl, ?y40⟩) (by assumption) ?_
            case y40 => (intro w hSw; (try dsimp only at hSw); first | (go_simp; done) | (go_simp; with_reducible rfl))
            simp only [Act.put, List.setIfInBounds_toArray, List.set_cons_zero, List.set_cons_succ]
            refine wpAnyH_take (i := 11) (oi := ⟨some 25, _, _, _, _, _⟩) (v := ?_) rfl (by kernel_rfl) (by kernel_rfl) (by kernel_rfl) (fun _ _ _ h => h) (Or.inl ⟨by kernel_rfl, ?y41⟩) (by assumption) ?_
            case y41 => (intro w hSw; (try dsimp only at hSw); first | (go_simp; done) | (go_simp; with_reducible rfl))
            simp only [Act.put, List.setIfInBounds_toArray, List.set_cons_zero, List.set_cons_succ]
            refine wpAnyH_take (i := 12) (oi := ⟨some 26, _, _, _, _, _⟩) (v := ?_) rfl (by kernel_rfl) (by kernel_rfl) (by kernel_rfl) (fun _ _ _ h => h) (Or.inl ⟨by kernel_rfl, ?y42⟩) (by assumption) ?_
            case y42 => (intro w hSw; (try dsimp only at hSw); first | (go_simp; done) | (go_simp; with_reducible rfl))
            simp only [Act.put, List.setIfInBounds_toArray, List.set_cons_zero, List.set_cons_succ]
            refine wpAnyH_take (i := 13) (oi := ⟨some 27, _, _, _, _, _⟩) (v := ?_) rfl (by kernel_rfl) (by kernel_rfl) (by kernel_rfl) (fun _ _ _ h => h) (Or.inl ⟨by kernel_rfl, ?y43⟩) (by assumption) ?_
            case y43 => (intro w hSw; (try dsimp only at hSw); first | (go_simp; done) | (go_simp; with_reducible rfl))
            simp only [Act.put, List.setIfInBounds_toArray, List.set_cons_zero, List.set_cons_succ]
            refine wpAnyH_take (i := 14) (oi := ⟨some 28, _, _, _, _, _⟩) (v := ?_) rfl (by kernel_rfl) (by kernel_rfl) (by kernel_rfl) (fun _ _ _ h => h) (Or.inl ⟨by kernel_rfl, ?y44⟩) (by assumption) ?_
            case y44 => (intro w hSw; (try dsimp only at hSw); first | (go_simp; done) | (go_simp; with_reducible rfl))
            simp only [Act.put, List.setIfInBounds_toArray, List.set_cons_zero, List.set_cons_succ]
            refine wpAnyH_take (i := 15) (oi := ⟨some 29, _, _, _, _, _⟩) (v := ?_) rfl (by kernel_rfl) (by kernel_rfl) (by kernel_rfl) (fun _ _ _ h => h) (Or.inl ⟨by kernel_rfl, ?y45⟩) (by assumption) ?_
            case y45 => (intro w hSw; (try dsimp only at hSw); first | (go_simp; done) | (go_simp; with_reducible rfl))
            simp only [Act.put, List.setIfInBounds_toArray, List.set_cons_zero, List.set_cons_succ]
            refine wpAnyH_take (i := 16) (oi := ⟨some 30, _, _, _, _, _⟩) (v := ?_) rfl (by kernel_rfl) (by kernel_rfl) (by kernel_rfl) (fun _ _ _ h => h) (Or.inl ⟨by kernel_rfl, ?y46⟩) (by assumption) ?_
            case y46 => (intro w hSw; (try dsimp only at hSw); first | (go_simp; done) | (go_simp; with_reducible rfl))
            simp only [Act.put, List.setIfInBounds_toArray, List.set_cons_zero, List.set_cons_succ]
            refine wpAnyH_done (by kernel_rfl) ?_ _
            clear y0 y1 y2 y3 y4 y5 y6 v0 v1 zc
            have v0 := XA.out.drew.get 0 rfl
            have v1 := XA.out.drew.get 1 rfl
            have HE := Lib.hid ((due_no HD.out (.inl (by simp [turnB, HXX.out]; exact fun h => hsx h.symm))).symm.trans hE.out)
            clear hE
            go_wp2
            go_roundw
            case rel => exact ⟨k + 1, by omega, by go_num, HE, XA.out.drew, BA.out.drew⟩
            case measure => simp [intOf]; omega
    · have HE := Lib.hid ((due_end (by rw [HM.out]; omega)).symm.trans hE.out : [] = R)
      clear hE
      go_wp2
      go_ret
      exact ⟨none, 0, 0, rfl, by rw [← HE.out]; rfl, fun _ _ => ⟨rfl, rfl⟩, by rw [← HE.out]; exact Own.nil _ _ _ _, B.out⟩
set_option maxHeartbeats 6400000 in
set_option maxRecDepth 100000 in
theorem sdue (A : Option Addr) (n c : Nat) (nx : List Int) (A2 : Option Addr) (m d : Nat) (ps : List Dat) {R : List Nat} (hR : dueP nx ps = R) (w : World) (hs : Sl w w.heap.size A (ints nx)) (hp : Sl w w.heap.size A2 (dats ps)) (hn : nx.length = n) (hm : ps.length = m) (hf : Fit nx ps) (hn4 : n ≤ 1048576) :
    Calls Try.prog 39 #[.agg #[.slice A n c, .slice A2 m d]] w (ChainP false R w) := by
  have HS := Lib.hid hs; have HP := Lib.hid hp; have HN := Lib.hid hn; have HM := Lib.hid hm; have HR := Lib.hid hR; have HF := Lib.hid hf
  have h13 : m ≤ 13 := by rw [← hm]; exact hf.len
  clear hs hp hn hm hR hf
  go_enter Try.func39, Try.ntmps39
  go_wp2
  go_loopw [3] (fun iv wr => ∃ k : Nat, k ≤ m ∧ iv = .int .i64 k ∧ Hid (dueA nx ps (ps.drop k) k = R) ∧ Blk wr w.heap.size #[.slice A n c, .slice A2 m d] 41 ∧ Below w.heap.size w wr) (fun iv _ => m - (intOf iv).toNat)
  case atStart => exact ⟨0, by omega, rfl, HR, Blk.new w _ _, by go_grown⟩
  case round =>
    obtain ⟨k, hk, rfl, hE, hx, hb⟩ := hrel
    have X := Lib.hid hx
    have B := Lib.hid hb
    have hszw := hb.size
    clear hx hb
    have x0 := X.out.get 0 rfl
    have x1 := X.out.get 1 rfl
    have hxl := X.out.lt
    by_cases hlt : k < m
    · obtain ⟨d', hd⟩ := fget_of_lt (xs := ps) (k := k) (by rw [HM.out]; exact hlt)
      have hdk := HF.out.ok _ (List.mem_of_getElem? hd)
      have hki : (0 : Int) ≤ (k : Int) := by omega
      have hkm : (k : Int) < (m : Int) := by omega
      obtain ⟨b, off, rfl, hbr, ⟨e0, e1, e2, e3, e4, e5, e6⟩⟩ := dats_elem ((HP.out.below B.out (Nat.le_refl _)).more B.out.size) hd
      have HD := Lib.hid hd
      clear hd
      obtain ⟨g0, g1, g2, g3, g4, g5, g6⟩ := d'
      have hb2 := datB_true hdk.1
      have hst0 := (okB_true hb2.2.1).1
      have hst1 := hdk.2
      change (0 : Int) ≤ g1 at hst0
      change g1 < (nx.length : Int) at hst1
      rw [HN.out] at hst1
      have hok : okB g0 = true := hb2.1
      clear hb2 hdk
      obtain ⟨s, rfl⟩ : ∃ s : Nat, g1 = (s : Int) := ⟨g1.toNat, by omega⟩
      obtain ⟨x, hx⟩ := fget_of_lt (xs := nx) (k := s) (by rw [HN.out]; omega)
      change World.cell? _ _ = some (.int .i64 g0) at e0
      change World.cell? _ _ = some (.int .i64 (s : Int)) at e1
      change World.cell? _ _ = some (.int .i64 g2) at e2
      change World.cell? _ _ = some (.bool g3) at e3
      change World.cell? _ _ = some (.bool g4) at e4
      change World.cell? _ _ = some (.bool g5) at e5
      change World.cell? _ _ = some (.string g6) at e6
      have hsn : s < n := by omega
      have HXX := Lib.hid hx
      clear hx
      cases g3 with
      | false =>
        go_wp2
        have Y := Lib.hid (Blk.new wr #[.int .i64 g0, .int .i64 (s : Int), .int .i64 g2, .bool false, .bool g4, .bool g5, .string g6] 45)
        have XA := Lib.hid (X.out.alloc (.cells #[.int .i64 g0, .int .i64 (s : Int), .int .i64 g2, .bool false, .bool g4, .bool g5, .string g6] 45))
        have BA := Lib.hid (B.out.alloc B.out.size (.cells #[.int .i64 g0, .int .i64 (s : Int), .int .i64 g2, .bool false, .bool g4, .bool g5, .string g6] 45))
        have y0 := Y.out.get 0 rfl
        have y1 := Y.out.get 1 rfl
        have y2 := Y.out.get 2 rfl
        have y3 := Y.out.get 3 rfl
        have y4 := Y.out.get 4 rfl
        have y5 := Y.out.get 5 rfl
        have y6 := Y.out.get 6 rfl
        have v0 := XA.out.get 0 rfl
        have v1 := XA.out.get 1 rfl
        have hyl := Y.out.lt
        have hvl := XA.out.lt
        clear e0 e1 e2 e3 e4 e5 e6 x0 x1
        refine wp_region_held_drew (S := fun w' => w'.cell? ⟨wr.heap.size, 0, none⟩ = some (.int .i64 g0) ∧ w'.cell? ⟨wr.heap.size, 1, none⟩ = some (.int .i64 (s : Int)) ∧ w'.cell? ⟨wr.heap.size, 2, none⟩ = some (.int .i64 g2) ∧ w'.cell? ⟨wr.heap.size, 3, none⟩ = some (.bool false) ∧ w'.cell? ⟨wr.heap.size, 4, none⟩ = some (.bool g4) ∧ w'.cell? ⟨wr.heap.size, 5, none⟩ = some (.bool g5) ∧ w'.cell? ⟨wr.heap.size, 6, none⟩ = some (.string g6) ∧ w'.cell? ⟨w.heap.size, 0, none⟩ = some (.slice A n c) ∧ w'.cell? ⟨w.heap.size, 1, none⟩ = some (.slice (some ⟨b, off, none⟩) m d)) (by kernel_rfl) (by first | exact ⟨y0, y1, y2, y3, y4, y5, y6, v0, v1⟩ | go_keep) (fun hHeld => ?_)
        refine wpAnyH_take (i := 0) (oi := ⟨some 18, _, _, _, _, _⟩) (v := ?_) rfl (by kernel_rfl) (by kernel_rfl) (by kernel_rfl) (fun _ _ _ h => h) (Or.inl ⟨by kernel_rfl, ?y47⟩) (by assumption) ?_
        case y47 => (intro w hSw; (try dsimp only at hSw); first | (go_simp; done) | (go_simp; with_reducible rfl))
        simp only [Act.put, List.setIfInBounds_toArray, List.set_cons_zero, List.set_cons_succ]
        refine wpAnyH_take (i := 1) (oi := ⟨some 19, _, _, _, _, _⟩) (v := ?_) rfl (by kernel_rfl) (by kernel_rfl) (by kernel_rfl) (fun _ _ _ h => h) (Or.inl ⟨by kernel_rfl, ?y48⟩) (by assumption) ?_
        case y48 => (intro w hSw; (try dsimp only at hSw); first | (go_simp; done) | (go_simp; with_reducible rfl))
        simp only [Act.put, List.setIfInBounds_toArray, List.set_cons_zero, List.set_cons_succ]
        refine wpAnyH_take (i := 2) (oi := ⟨some 20, _, _, _, _, _⟩) (v := ?_) rfl (by kernel_rfl) (by kernel_rfl) (by kernel_rfl) (fun _ _ _ h => h) (Or.inl ⟨by kernel_rfl, ?y49⟩) (by assumption) ?_
        case y49 => (intro w hSw; (try dsimp only at hSw); first | (go_simp; done) | (go_simp; with_reducible rfl))
        simp only [Act.put, List.setIfInBounds_toArray, List.set_cons_zero, List.set_cons_succ]
        refine wpAnyH_take (i := 3) (oi := ⟨some 21, _, _, _, _, _⟩) (v := undef) rfl (by kernel_rfl) (by kernel_rfl) (by kernel_rfl) (fun _ _ _ h => h) (Or.inr ⟨by kernel_rfl, rfl⟩) (by assumption) ?_
        simp only [Act.put, List.setIfInBounds_toArray, List.set_cons_zero, List.set_cons_succ]
        refine wpAnyH_take (i := 4) (oi := ⟨some 22, _, _, _, _, _⟩) (v := undef) rfl (by kernel_rfl) (by kernel_rfl) (by kernel_rfl) (fun _ _ _ h => h) (Or.inr ⟨by kernel_rfl, rfl⟩) (by assumption) ?_
        simp only [Act.put, List.setIfInBounds_toArray, List.set_cons_zero, List.set_cons_succ]
        refine wpAnyH_take (i := 5) (oi := ⟨some 23, _, _, _, _, _⟩) (v := undef) rfl (by kernel_rfl) (by kernel_rfl) (by kernel_rfl) (fun _ _ _ h => h) (Or.inr ⟨by kernel_rfl, rfl⟩) (by assumption) ?_
        simp only [Act.put, List.setIfInBounds_toArray, List.set_cons_zero, List.set_cons_succ]
        refine wpAnyH_take (i := 6) (oi := ⟨some 24, _, _, _, _, _⟩) (v := undef) rfl (by kernel_rfl) (by kernel_rfl) (by kernel_rfl) (fun _ _ _ h => h) (Or.inr ⟨by kernel_rfl, rfl⟩) (by assumption) ?_
        simp only [Act.put, List.setIfInBounds_toArray, List.set_cons_zero, List.set_cons_succ]
        refine wpAnyH_take (i := 7) (oi := ⟨some 25, _, _, _, _, _⟩) (v := undef) rfl (by kernel_rfl) (by kernel_rfl) (by kernel_rfl) (fun _ _ _ h => h) (Or.inr ⟨by kernel_rfl, rfl⟩) (by assumption) ?_
        simp only [Act.put, List.setIfInBounds_toArray, List.set_cons_zero, List.set_cons_succ]
        refine wpAnyH_take (i := 8) (oi := ⟨some 26, _, _, _, _, _⟩) (v := undef) rfl (by kernel_rfl) (by kernel_rfl) (by kernel_rfl) (fun _ _ _ h => h) (Or.inr ⟨by kernel_rfl, rfl⟩) (by assumption) ?_
        simp only [Act.put, List.setIfInBounds_toArray, List.set_cons_zero, List.set_cons_succ]
        refine wpAnyH_take (i := 9) (oi := ⟨some 27, _, _, _, _, _⟩) (v := undef) rfl (by kernel_rfl) (by kernel_rfl) (by kernel_rfl) (fun _ _ _ h => h) (Or.inr ⟨by kernel_rfl, rfl⟩) (by assumption) ?_
        simp only [Act.put, List.setIfInBounds_toArray, List.set_cons_zero, List.set_cons_succ]
        refine wpAnyH_take (i := 10) (oi := ⟨some 28, _, _, _, _, _⟩) (v := undef) rfl (by kernel_rfl) (by kernel_rfl) (by kernel_rfl) (fun _ _ _ h => h) (Or.inr ⟨by kernel_rfl, rfl⟩) (by assumption) ?_
        simp only [Act.put, List.setIfInBounds_toArray, List.set_cons_zero, List.set_cons_succ]
        refine wpAnyH_take (i := 11) (oi := ⟨some 29, _, _, _, _, _⟩) (v := undef) rfl (by kernel_rfl) (by kernel_rfl) (by kernel_rfl) (fun _ _ _ h => h) (Or.inr ⟨by kernel_rfl, rfl⟩) (by assumption) ?_
        simp only [Act.put, List.setIfInBounds_toArray, List.set_cons_zero, List.set_cons_succ]
        refine wpAnyH_take (i := 12) (oi := ⟨some 30, _, _, _, _, _⟩) (v := undef) rfl (by kernel_rfl) (by kernel_rfl) (by kernel_rfl) (fun _ _ _ h => h) (Or.inr ⟨by kernel_rfl, rfl⟩) (by assumption) ?_
        simp only [Act.put, List.setIfInBounds_toArray, List.set_cons_zero, List.set_cons_succ]
        refine wpAnyH_take (i := 13) (oi := ⟨some 31, _, _, _, _, _⟩) (v := undef) rfl (by kernel_rfl) (by kernel_rfl) (by kernel_rfl) (fun _ _ _ h => h) (Or.inr ⟨by kernel_rfl, rfl⟩) (by assumption) ?_
        simp only [Act.put, List.setIfInBounds_toArray, List.set_cons_zero, List.set_cons_succ]
        refine wpAnyH_take (i := 14) (oi := ⟨some 32, _, _, _, _, _⟩) (v := undef) rfl (by kernel_rfl) (by kernel_rfl) (by kernel_rfl) (fun _ _ _ h => h) (Or.inr ⟨by kernel_rfl, rfl⟩) (by assumption) ?_
        simp only [Act.put, List.setIfInBounds_toArray, List.set_cons_zero, List.set_cons_succ]
        refine wpAnyH_take (i := 15) (oi := ⟨some 33, _, _, _, _, _⟩) (v := undef) rfl (by kernel_rfl) (by kernel_rfl) (by kernel_rfl) (fun _ _ _ h => h) (Or.inr ⟨by kernel_rfl, rfl⟩) (by assumption) ?_
        simp only [Act.put, List.setIfInBounds_toArray, List.set_cons_zero, List.set_cons_succ]
        refine wpAnyH_take (i := 16) (oi := ⟨some 34, _, _, _, _, _⟩) (v := ?_) rfl (by kernel_rfl) (by kernel_rfl) (by kernel_rfl) (fun _ _ _ h => h) (Or.inl ⟨by kernel_rfl, ?y50⟩) (by assumption) ?_
        case y50 => (intro w hSw; (try dsimp only at hSw); first | (go_simp; done) | (go_simp; with_reducible rfl))
        simp only [Act.put, List.setIfInBounds_toArray, List.set_cons_zero, List.set_cons_succ]
        refine wpAnyH_done (by kernel_rfl) ?_ _
        clear y0 y1 y2 y3 y4 y5 y6 v0 v1
        have v0 := XA.out.drew.get 0 rfl
        have v1 := XA.out.drew.get 1 rfl
        have HE := Lib.hid ((due_no HD.out (.inl (rfl))).symm.trans hE.out)
        clear hE
        go_wp2
        go_roundw
        case rel => exact ⟨k + 1, by omega, by go_num, HE, XA.out.drew, BA.out.drew⟩
        case measure => simp [intOf]; omega
      | true =>
        cases g5 with
        | true =>
          go_wp2
          have Y := Lib.hid (Blk.new wr #[.int .i64 g0, .int .i64 (s : Int), .int .i64 g2, .bool true, .bool g4, .bool true, .string g6] 45)
          have XA := Lib.hid (X.out.alloc (.cells #[.int .i64 g0, .int .i64 (s : Int), .int .i64 g2, .bool true, .bool g4, .bool true, .string g6] 45))
          have BA := Lib.hid (B.out.alloc B.out.size (.cells #[.int .i64 g0, .int .i64 (s : Int), .int .i64 g2, .bool true, .bool g4, .bool true, .string g6] 45))
          have y0 := Y.out.get 0 rfl
          have y1 := Y.out.get 1 rfl
          have y2 := Y.out.get 2 rfl
          have y3 := Y.out.get 3 rfl
          have y4 := Y.out.get 4 rfl
          have y5 := Y.out.get 5 rfl
          have y6 := Y.out.get 6 rfl
          have v0 := XA.out.get 0 rfl
          have v1 := XA.out.get 1 rfl
          have hyl := Y.out.lt
          have hvl := XA.out.lt
          clear e0 e1 e2 e3 e4 e5 e6 x0 x1
          refine wp_region_held_drew (S := fun w' => w'.cell? ⟨wr.heap.size, 0, none⟩ = some (.int .i64 g0) ∧ w'.cell? ⟨wr.heap.size, 1, none⟩ = some (.int .i64 (s : Int)) ∧ w'.cell? ⟨wr.heap.size, 2, none⟩ = some (.int .i64 g2) ∧ w'.cell? ⟨wr.heap.size, 3, none⟩ = some (.bool true) ∧ w'.cell? ⟨wr.heap.size, 4, none⟩ = some (.bool g4) ∧ w'.cell? ⟨wr.heap.size, 5, none⟩ = some (.bool true) ∧ w'.cell? ⟨wr.heap.size, 6, none⟩ = some (.string g6) ∧ w'.cell? ⟨w.heap.size, 0, none⟩ = some (.slice A n c) ∧ w'.cell? ⟨w.heap.size, 1, none⟩ = some (.slice (some ⟨b, off, none⟩) m d)) (by kernel_rfl) (by first | exact ⟨y0, y1, y2, y3, y4, y5, y6, v0, v1⟩ | go_keep) (fun hHeld => ?_)
          refine wpAnyH_take (i := 0) (oi := ⟨some 18, _, _, _, _, _⟩) (v := ?_) rfl (by kernel_rfl) (by kernel_rfl) (by kernel_rfl) (fun _ _ _ h => h) (Or.inl ⟨by kernel_rfl, ?y51⟩) (by assumption) ?_
          case y51 => (intro w hSw; (try dsimp only at hSw); first | (go_simp; done) | (go_simp; with_reducible rfl))
          simp only [Act.put, List.setIfInBounds_toArray, List.set_cons_zero, List.set_cons_succ]
          refine wpAnyH_take (i := 1) (oi := ⟨some 19, _, _, _, _, _⟩) (v := ?_) rfl (by kernel_rfl) (by kernel_rfl) (by kernel_rfl) (fun _ _ _ h => h) (Or.inl ⟨by kernel_rfl, ?y52⟩) (by assumption) ?_
          case y52 => (intro w hSw; (try dsimp only at hSw); first | (go_simp; done) | (go_simp; with_reducible rfl))
          simp only [Act.put, List.setIfInBounds_toArray, List.set_cons_zero, List.set_cons_succ]
          refine wpAnyH_take (i := 2) (oi := ⟨some 20, _, _, _, _, _⟩) (v := ?_) rfl (by kernel_rfl) (by kernel_rfl) (by kernel_rfl) (fun _ _ _ h => h) (Or.inl ⟨by kernel_rfl, ?y53⟩) (by assumption) ?_
          case y53 => (intro w hSw; (try dsimp only at hSw); first | (go_simp; done) | (go_simp; with_reducible rfl))
          simp only [Act.put, List.setIfInBounds_toArray, List.set_cons_zero, List.set_cons_succ]
          refine wpAnyH_take (i := 3) (oi := ⟨some 21, _, _, _, _, _⟩) (v := ?_) rfl (by kernel_rfl) (by kernel_rfl) (by kernel_rfl) (fun _ _ _ h => h) (Or.inl ⟨by kernel_rfl, ?y54⟩) (by assumption) ?_
          case y54 => (intro w hSw; (try dsimp only at hSw); first | (go_simp; done) | (go_simp; with_reducible rfl))
          simp only [Act.put, List.setIfInBounds_toArray, List.set_cons_zero, List.set_cons_succ]
          refine wpAnyH_take (i := 4) (oi := ⟨some 22, _, _, _, _, _⟩) (v := ?_) rfl (by kernel_rfl) (by kernel_rfl) (by kernel_rfl) (fun _ _ _ h => h) (Or.inl ⟨by kernel_rfl, ?y55⟩) (by assumption) ?_
          case y55 => (intro w hSw; (try dsimp only at hSw); first | (go_simp; done) | (go_simp; with_reducible rfl))
          simp only [Act.put, List.setIfInBounds_toArray, List.set_cons_zero, List.set_cons_succ]
          refine wpAnyH_take (i := 5) (oi := ⟨some 23, _, _, _, _, _⟩) (v := ?_) rfl (by kernel_rfl) (by kernel_rfl) (by kernel_rfl) (fun _ _ _ h => h) (Or.inl ⟨by kernel_rfl, ?y56⟩) (by assumption) ?_
          case y56 => (intro w hSw; (try dsimp only at hSw); first | (go_simp; done) | (go_simp; with_reducible rfl))
          simp only [Act.put, List.setIfInBounds_toArray, List.set_cons_zero, List.set_cons_succ]
          refine wpAnyH_take (i := 6) (oi := ⟨some 24, _, _, _, _, _⟩) (v := undef) rfl (by kernel_rfl) (by kernel_rfl) (by kernel_rfl) (fun _ _ _ h => h) (Or.inr ⟨by kernel_rfl, rfl⟩) (by assumption) ?_
          simp only [Act.put, List.setIfInBounds_toArray, List.set_cons_zero, List.set_cons_succ]
          refine wpAnyH_take (i := 7) (oi := ⟨some 25, _, _, _, _, _⟩) (v := undef) rfl (by kernel_rfl) (by kernel_rfl) (by kernel_rfl) (fun _ _ _ h => h) (Or.inr ⟨by kernel_rfl, rfl⟩) (by assumption) ?_
          simp only [Act.put, List.setIfInBounds_toArray, List.set_cons_zero, List.set_cons_succ]
          refine wpAnyH_take (i := 8) (oi := ⟨some 26, _, _, _, _, _⟩) (v := undef) rfl (by kernel_rfl) (by kernel_rfl) (by kernel_rfl) (fun _ _ _ h => h) (Or.inr ⟨by kernel_rfl, rfl⟩) (by assumption) ?_
          simp only [Act.put, List.setIfInBounds_toArray, List.set_cons_zero, List.set_cons_succ]
          refine wpAnyH_take (i := 9) (oi := ⟨some 27, _, _, _, _, _⟩) (v := undef) rfl (by kernel_rfl) (by kernel_rfl) (by kernel_rfl) (fun _ _ _ h => h) (Or.inr ⟨by kernel_rfl, rfl⟩) (by assumption) ?_
          simp only [Act.put, List.setIfInBounds_toArray, List.set_cons_zero, List.set_cons_succ]
          refine wpAnyH_take (i := 10) (oi := ⟨some 28, _, _, _, _, _⟩) (v := undef) rfl (by kernel_rfl) (by kernel_rfl) (by kernel_rfl) (fun _ _ _ h => h) (Or.inr ⟨by kernel_rfl, rfl⟩) (by assumption) ?_
          simp only [Act.put, List.setIfInBounds_toArray, List.set_cons_zero, List.set_cons_succ]
          refine wpAnyH_take (i := 11) (oi := ⟨some 29, _, _, _, _, _⟩) (v := undef) rfl (by kernel_rfl) (by kernel_rfl) (by kernel_rfl) (fun _ _ _ h => h) (Or.inr ⟨by kernel_rfl, rfl⟩) (by assumption) ?_
          simp only [Act.put, List.setIfInBounds_toArray, List.set_cons_zero, List.set_cons_succ]
          refine wpAnyH_take (i := 12) (oi := ⟨some 30, _, _, _, _, _⟩) (v := undef) rfl (by kernel_rfl) (by kernel_rfl) (by kernel_rfl) (fun _ _ _ h => h) (Or.inr ⟨by kernel_rfl, rfl⟩) (by assumption) ?_
          simp only [Act.put, List.setIfInBounds_toArray, List.set_cons_zero, List.set_cons_succ]
          refine wpAnyH_take (i := 13) (oi := ⟨some 31, _, _, _, _, _⟩) (v := undef) rfl (by kernel_rfl) (by kernel_rfl) (by kernel_rfl) (fun _ _ _ h => h) (Or.inr ⟨by kernel_rfl, rfl⟩) (by assumption) ?_
          simp only [Act.put, List.setIfInBounds_toArray, List.set_cons_zero, List.set_cons_succ]
          refine wpAnyH_take (i := 14) (oi := ⟨some 32, _, _, _, _, _⟩) (v := undef) rfl (by kernel_rfl) (by kernel_rfl) (by kernel_rfl) (fun _ _ _ h => h) (Or.inr ⟨by kernel_rfl, rfl⟩) (by assumption) ?_
          simp only [Act.put, List.setIfInBounds_toArray, List.set_cons_zero, List.set_cons_succ]
          refine wpAnyH_take (i := 15) (oi := ⟨some 33, _, _, _, _, _⟩) (v := ?_) rfl (by kernel_rfl) (by kernel_rfl) (by kernel_rfl) (fun _ _ _ h => h) (Or.inl ⟨by kernel_rfl, ?y57⟩) (by assumption) ?_
          case y57 => (intro w hSw; (try dsimp only at hSw); first | (go_simp; done) | (go_simp; with_reducible rfl))
          simp only [Act.put, List.setIfInBounds_toArray, List.set_cons_zero, List.set_cons_succ]
          refine wpAnyH_take (i := 16) (oi := ⟨some 34, _, _, _, _, _⟩) (v := ?_) rfl (by kernel_rfl) (by kernel_rfl) (by kernel_rfl) (fun _ _ _ h => h) (Or.inl ⟨by kernel_rfl, ?y58⟩) (by assumption) ?_
          case y58 => (intro w hSw; (try dsimp only at hSw); first | (go_simp; done) | (go_simp; with_reducible rfl))
          simp only [Act.put, List.setIfInBounds_toArray, List.set_cons_zero, List.set_cons_succ]
          refine wpAnyH_done (by kernel_rfl) ?_ _
          clear y0 y1 y2 y3 y4 y5 y6 v0 v1
          have hT := Lib.hid (by simp [turnB] : turnB nx ⟨g0, (s : Int), g2, true, g4, true, g6⟩ = true)
          obtain ⟨R1, hR1⟩ : ∃ R1, chainP ps k = R1 := ⟨_, rfl⟩
          have HR1 := Lib.hid hR1
          have v0 := XA.out.drew.get 0 rfl
          have v1 := XA.out.drew.get 1 rfl
          go_wp2_with fail
          refine (schain _ _ _ ps k hR1 _ ((HP.out.below BA.out.drew (Nat.le_refl _)).more BA.out.drew.size) HM.out h13 HD.out hok).mono ?_
          rintro e w5 ⟨A5, q5, c5, rfl, hq5, hnl, o5, b5⟩
          have B5 := Lib.hid (bstep BA.out.drew b5 BA.out.drew.size)
          have X5 := Lib.hid (XA.out.drew.below b5 XA.out.drew.lt)
          have O5 := Lib.hid (o5.lower BA.out.drew.size)
          clear o5 b5 hR1 v0 v1
          have x0 := X5.out.get 0 rfl
          have x1 := X5.out.get 1 rfl
          have hx5 := X5.out.lt
          by_cases hz : R1 = []
          · subst hz
            have hq0 : q5 = 0 := by rw [← hq5]; rfl
            subst hq0
            clear hnl hq5
            have HE := Lib.hid ((due_no HD.out (.inr HR1.out)).symm.trans hE.out)
            clear hE
            go_wp2
            go_roundw
            case rel => exact ⟨k + 1, by omega, by go_num, HE, X5.out, B5.out⟩
            case measure => simp [intOf]; omega
          · have hz2 := Lib.hid hz
            clear hz
            have HE := Lib.hid ((due_yes HD.out hT.out (by rw [HR1.out]; exact hz2.out)).symm.trans hE.out)
            clear hE
            have HRR := Lib.hid (HR1.out.symm.trans HE.out : R1 = R)
            obtain ⟨g5', rfl⟩ := some_of_ne O5.out hq5 hz2.out
            have hq0 : 0 < q5 := by rcases Nat.eq_zero_or_pos q5 with h | h; (· exact absurd (List.eq_nil_of_length_eq_zero (hq5.trans h)) hz2.out); exact h
            have hq0' : (0 : Int) < (q5 : Int) := by omega
            clear hnl
            go_wp2
            go_ret
            exact ⟨some ⟨g5', 0, none⟩, q5, c5, rfl, by rw [← HRR.out]; exact hq5, (fun h => nomatch h), by rw [← HRR.out]; exact O5.out, B5.out⟩
        | false =>
          obtain ⟨bn, on, rfl, hbn, hcn⟩ := ((HS.out.below B.out (Nat.le_refl _)).more B.out.size).at_ (j := s) (by rw [ints_len, HN.out]; exact hsn)
          have zc0 := hcn s _ (ints_at_ HXX.out)
          clear hcn
          have hs0 : (0 : Int) ≤ (s : Int) := by omega
          have hsn' : (s : Int) < (n : Int) := by omega
          by_cases hsx : g2 = x
          · subst hsx
            go_wp2
            have Y := Lib.hid (Blk.new wr #[.int .i64 g0, .int .i64 (s : Int), .int .i64 g2, .bool true, .bool g4, .bool false, .string g6] 45)
            have XA := Lib.hid (X.out.alloc (.cells #[.int .i64 g0, .int .i64 (s : Int), .int .i64 g2, .bool true, .bool g4, .bool false, .string g6] 45))
            have BA := Lib.hid (B.out.alloc B.out.size (.cells #[.int .i64 g0, .int .i64 (s : Int), .int .i64 g2, .bool true, .bool g4, .bool false, .string g6] 45))
            have y0 := Y.out.get 0 rfl
            have y1 := Y.out.get 1 rfl
            have y2 := Y.out.get 2 rfl
            have y3 := Y.out.get 3 rfl
            have y4 := Y.out.get 4 rfl
            have y5 := Y.out.get 5 rfl
            have y6 := Y.out.get 6 rfl
            have v0 := XA.out.get 0 rfl
            have v1 := XA.out.get 1 rfl
            have hyl := Y.out.lt
            have hvl := XA.out.lt
            clear e0 e1 e2 e3 e4 e5 e6 x0 x1
            have zc := (World.cell?_alloc_lt wr (.cells #[.int .i64 g0, .int .i64 (s : Int), .int .i64 g2, .bool true, .bool g4, .bool false, .string g6] 45) ⟨bn, on + s, none⟩ hbn).trans zc0
            clear zc0
            have heq : (g2 == g2) = true := by simp
            refine wp_region_held_drew (S := fun w' => w'.cell? ⟨wr.heap.size, 0, none⟩ = some (.int .i64 g0) ∧ w'.cell? ⟨wr.heap.size, 1, none⟩ = some (.int .i64 (s : Int)) ∧ w'.cell? ⟨wr.heap.size, 2, none⟩ = some (.int .i64 g2) ∧ w'.cell? ⟨wr.heap.size, 3, none⟩ = some (.bool true) ∧ w'.cell? ⟨wr.heap.size, 4, none⟩ = some (.bool g4) ∧ w'.cell? ⟨wr.heap.size, 5, none⟩ = some (.bool false) ∧ w'.cell? ⟨wr.heap.size, 6, none⟩ = some (.string g6) ∧ w'.cell? ⟨w.heap.size, 0, none⟩ = some (.slice (some ⟨bn, on, none⟩) n c) ∧ w'.cell? ⟨w.heap.size, 1, none⟩ = some (.slice (some ⟨b, off, none⟩) m d) ∧ w'.cell? ⟨bn, on + s, none⟩ = some (.int .i64 g2)) (by kernel_rfl) (by first | exact ⟨y0, y1, y2, y3, y4, y5, y6, v0, v1, zc⟩ | go_keep) (fun hHeld => ?_)
            refine wpAnyH_take (i := 0) (oi := ⟨some 18, _, _, _, _, _⟩) (v := ?_) rfl (by kernel_rfl) (by kernel_rfl) (by kernel_rfl) (fun _ _ _ h => h) (Or.inl ⟨by kernel_rfl, ?y59⟩) (by assumption) ?_
            case y59 => (intro w hSw; (try dsimp only at hSw); first | (go_simp; done) | (go_simp; with_reducible rfl))
            simp only [Act.put, List.setIfInBounds_toArray, List.set_cons_zero, List.set_cons_succ]
            refine wpAnyH_take (i := 1) (oi := ⟨some 19, _, _, _, _, _⟩) (v := ?_) rfl (by kernel_rfl) (by kernel_rfl) (by kernel_rfl) (fun _ _ _ h => h) (Or.inl ⟨by kernel_rfl, ?y60⟩) (by assumption) ?_
            case y60 => (intro w hSw; (try dsimp only at hSw); first | (go_simp; done) | (go_simp; with_reducible rfl))
            simp only [Act.put, List.setIfInBounds_toArray, List.set_cons_zero, List.set_cons_succ]
            refine wpAnyH_take (i := 2) (oi := ⟨some 20, _, _, _, _, _⟩) (v := ?_) rfl (by kernel_rfl) (by kernel_rfl) (by kernel_rfl) (fun _ _ _ h => h) (Or.inl ⟨by kernel_rfl, ?y61⟩) (by assumption) ?_
            case y61 => (intro w hSw; (try dsimp only at hSw); first | (go_simp; done) | (go_simp; with_reducible rfl))
            simp only [Act.put, List.setIfInBounds_toArray, List.set_cons_zero, List.set_cons_succ]
            refine wpAnyH_take (i := 3) (oi := ⟨some 21, _, _, _, _, _⟩) (v := ?_) rfl (by kernel_rfl) (by kernel_rfl) (by kernel_rfl) (fun _ _ _ h => h) (Or.inl ⟨by kernel_rfl, ?y62⟩) (by assumption) ?_
            case y62 => (intro w hSw; (try dsimp only at hSw); first | (go_simp; done) | (go_simp; with_reducible rfl))
            simp only [Act.put, List.setIfInBounds_toArray, List.set_cons_zero, List.set_cons_succ]
            refine wpAnyH_take (i := 4) (oi := ⟨some 22, _, _, _, _, _⟩) (v := ?_) rfl (by kernel_rfl) (by kernel_rfl) (by kernel_rfl) (fun _ _ _ h => h) (Or.inl ⟨by kernel_rfl, ?y63⟩) (by assumption) ?_
            case y63 => (intro w hSw; (try dsimp only at hSw); first | (go_simp; done) | (go_simp; with_reducible rfl))
            simp only [Act.put, List.setIfInBounds_toArray, List.set_cons_zero, List.set_cons_succ]
            refine wpAnyH_take (i := 5) (oi := ⟨some 23, _, _, _, _, _⟩) (v := ?_) rfl (by kernel_rfl) (by kernel_rfl) (by kernel_rfl) (fun _ _ _ h => h) (Or.inl ⟨by kernel_rfl, ?y64⟩) (by assumption) ?_
            case y64 => (intro w hSw; (try dsimp only at hSw); first | (go_simp; done) | (go_simp; with_reducible rfl))
            simp only [Act.put, List.setIfInBounds_toArray, List.set_cons_zero, List.set_cons_succ]
            refine wpAnyH_take (i := 6) (oi := ⟨some 24, _, _, _, _, _⟩) (v := ?_) rfl (by kernel_rfl) (by kernel_rfl) (by kernel_rfl) (fun _ _ _ h => h) (Or.inl ⟨by kernel_rfl, ?y65⟩) (by assumption) ?_
            case y65 => (intro w hSw; (try dsimp only at hSw); first | (go_simp; done) | (go_simp; with_reducible rfl))
            simp only [Act.put, List.setIfInBounds_toArray, List.set_cons_zero, List.set_cons_succ]
            refine wpAnyH_take (i := 7) (oi := ⟨some 25, _, _, _, _, _⟩) (v := ?_) rfl (by kernel_rfl) (by kernel_rfl) (by kernel_rfl) (fun _ _ _ h => h) (Or.inl ⟨by kernel_rfl, ?y66⟩) (by assumption) ?_
            case y66 => (intro w hSw; (try dsimp only at hSw); first | (go_simp; done) | (go_simp; with_reducible rfl))
            simp only [Act.put, List.setIfInBounds_toArray, List.set_cons_zero, List.set_cons_succ]
            refine wpAnyH_take (i := 8) (oi := ⟨some 26, _, _, _, _, _⟩) (v := ?_) rfl (by kernel_rfl) (by kernel_rfl) (by kernel_rfl) (fun _ _ _ h => h) (Or.inl ⟨by kernel_rfl, ?y67⟩) (by assumption) ?_
            case y67 => (intro w hSw; (try dsimp only at hSw); first | (go_simp; done) | (go_simp; with_reducible rfl))
            simp only [Act.put, List.setIfInBounds_toArray, List.set_cons_zero, List.set_cons_succ]
            refine wpAnyH_take (i := 9) (oi := ⟨some 27, _, _, _, _, _⟩) (v := ?_) rfl (by kernel_rfl) (by kernel_rfl) (by kernel_rfl) (fun _ _ _ h => h) (Or.inl ⟨by kernel_rfl, ?y68⟩) (by assumption) ?_
            case y68 => (intro w hSw; (try dsimp only at hSw); first | (go_simp; done) | (go_simp; with_reducible rfl))
            simp only [Act.put, List.setIfInBounds_toArray, List.set_cons_zero, List.set_cons_succ]
            refine wpAnyH_take (i := 10) (oi := ⟨some 28, _, _, _, _, _⟩) (v := ?_) rfl (by kernel_rfl) (by kernel_rfl) (by kernel_rfl) (fun _ _ _ h => h) (Or.inl ⟨by kernel_rfl, ?y69⟩) (by assumption) ?_
            case y69 => (intro w hSw; (try dsimp only at hSw); first | (go_simp; done) | (go_simp; with_reducible rfl))
            simp only [Act.put, List.setIfInBounds_toArray, List.set_cons_zero, List.set_cons_succ]
            refine wpAnyH_take (i := 11) (oi := ⟨some 29, _, _, _, _, _⟩) (v := ?_) rfl (by kernel_rfl) (by kernel_rfl) (by kernel_rfl) (fun _ _ _ h => h) (Or.inl ⟨by kernel_rfl, ?y70⟩) (by assumption) ?_
            case y70 => (intro w hSw; (try dsimp only at hSw); first | (go_simp; done) | (go_simp; with_reducible rfl))
            simp only [Act.put, List.setIfInBounds_toArray, List.set_cons_zero, List.set_cons_succ]
            refine wpAnyH_take (i := 12) (oi := ⟨some 30, _, _, _, _, _⟩) (v := ?_) rfl (by kernel_rfl) (by kernel_rfl) (by kernel_rfl) (fun _ _ _ h => h) (Or.inl ⟨by kernel_rfl, ?y71⟩) (by assumption) ?_
            case y71 => (intro w hSw; (try dsimp only at hSw); first | (go_simp; done) | (go_simp; with_reducible rfl))
            simp only [Act.put, List.setIfInBounds_toArray, List.set_cons_zero, List.set_cons_succ]
            refine wpAnyH_take (i := 13) (oi := ⟨some 31, _, _, _, _, _⟩) (v := ?_) rfl (by kernel_rfl) (by kernel_rfl) (by kernel_rfl) (fun _ _ _ h => h) (Or.inl ⟨by kernel_rfl, ?y72⟩) (by assumption) ?_
            case y72 => (intro w hSw; (try dsimp only at hSw); first | (go_simp; done) | (go_simp; with_reducible rfl))
            simp only [Act.put, List.setIfInBounds_toArray, List.set_cons_zero, List.set_cons_succ]
            refine wpAnyH_take (i := 14) (oi := ⟨some 32, _, _, _, _, _⟩) (v := ?_) rfl (by kernel_rfl) (by kernel_rfl) (by kernel_rfl) (fun _ _ _ h => h) (Or.inl ⟨by kernel_rfl, ?y73⟩) (by assumption) ?_
            case y73 => (intro w hSw; (try dsimp only at hSw); first | (go_simp; done) | (go_simp; with_reducible rfl))
            simp only [Act.put, List.setIfInBounds_toArray, List.set_cons_zero, List.set_cons_succ]
            refine wpAnyH_take (i := 15) (oi := ⟨some 33, _, _, _, _, _⟩) (v := ?_) rfl (by kernel_rfl) (by kernel_rfl) (by kernel_rfl) (fun _ _ _ h => h) (Or.inl ⟨by kernel_rfl, ?y74⟩) (by assumption) ?_
            case y74 => (intro w hSw; (try dsimp only at hSw); first | (go_simp; done) | (go_simp; with_reducible rfl))
            simp only [Act.put, List.setIfInBounds_toArray, List.set_cons_zero, List.set_cons_succ]
            refine wpAnyH_take (i := 16) (oi := ⟨some 34, _, _, _, _, _⟩) (v := ?_) rfl (by kernel_rfl) (by kernel_rfl) (by kernel_rfl) (fun _ _ _ h => h) (Or.inl ⟨by kernel_rfl, ?y75⟩) (by assumption) ?_
            case y75 => (intro w hSw; (try dsimp only at hSw); first | (go_simp; done) | (go_simp; with_reducible rfl))
            simp only [Act.put, List.setIfInBounds_toArray, List.set_cons_zero, List.set_cons_succ]
            refine wpAnyH_done (by kernel_rfl) ?_ _
            clear y0 y1 y2 y3 y4 y5 y6 v0 v1 zc
            have hT := Lib.hid (by simp [turnB, HXX.out] : turnB nx ⟨g0, (s : Int), g2, true, g4, false, g6⟩ = true)
            obtain ⟨R1, hR1⟩ : ∃ R1, chainP ps k = R1 := ⟨_, rfl⟩
            have HR1 := Lib.hid hR1
            have v0 := XA.out.drew.get 0 rfl
            have v1 := XA.out.drew.get 1 rfl
            go_wp2_with fail
            refine (schain _ _ _ ps k hR1 _ ((HP.out.below BA.out.drew (Nat.le_refl _)).more BA.out.drew.size) HM.out h13 HD.out hok).mono ?_
            rintro e w5 ⟨A5, q5, c5, rfl, hq5, hnl, o5, b5⟩
            have B5 := Lib.hid (bstep BA.out.drew b5 BA.out.drew.size)
            have X5 := Lib.hid (XA.out.drew.below b5 XA.out.drew.lt)
            have O5 := Lib.hid (o5.lower BA.out.drew.size)
            clear o5 b5 hR1 v0 v1
            have x0 := X5.out.get 0 rfl
            have x1 := X5.out.get 1 rfl
            have hx5 := X5.out.lt
            by_cases hz : R1 = []
            · subst hz
              have hq0 : q5 = 0 := by rw [← hq5]; rfl
              subst hq0
              clear hnl hq5
              have HE := Lib.hid ((due_no HD.out (.inr HR1.out)).symm.trans hE.out)
              clear hE
              go_wp2
              go_roundw
              case rel => exact ⟨k + 1, by omega, by go_num, HE, X5.out, B5.out⟩
              case measure => simp [intOf]; omega
            · have hz2 := Lib.hid hz
              clear hz
              have HE := Lib.hid ((due_yes HD.out hT.out (by rw [HR1.out]; exact hz2.out)).symm.trans hE.out)
              clear hE
              have HRR := Lib.hid (HR1.out.symm.trans HE.out : R1 = R)
              obtain ⟨g5', rfl⟩ := some_of_ne O5.out hq5 hz2.out
              have hq0 : 0 < q5 := by rcases Nat.eq_zero_or_pos q5 with h | h; (· exact absurd (List.eq_nil_of_length_eq_zero (hq5.trans h)) hz2.out); exact h
              have hq0' : (0 : Int) < (q5 : Int) := by omega
              clear hnl
              go_wp2
              go_ret
              exact ⟨some ⟨g5', 0, none⟩, q5, c5, rfl, by rw [← HRR.out]; exact hq5, (fun h => nomatch h), by rw [← HRR.out]; exact O5.out, B5.out⟩
          · have heq : (g2 == x) = false := by simpa using hsx
            go_wp2
            have Y := Lib.hid (Blk.new wr #[.int .i64 g0, .int .i64 (s : Int), .int .i64 g2, .bool true, .bool g4, .bool false, .string g6] 45)
            have XA := Lib.hid (X.out.alloc (.cells #[.int .i64 g0, .int .i64 (s : Int), .int .i64 g2, .bool true, .bool g4, .bool false, .string g6] 45))
            have BA := Lib.hid (B.out.alloc B.out.size (.cells #[.int .i64 g0, .int .i64 (s : Int), .int .i64 g2, .bool true, .bool g4, .bool false, .string g6] 45))
            have y0 := Y.out.get 0 rfl
            have y1 := Y.out.get 1 rfl
            have y2 := Y.out.get 2 rfl
            have y3 := Y.out.get 3 rfl
            have y4 := Y.out.get 4 rfl
            have y5 := Y.out.get 5 rfl
            have y6 := Y.out.get 6 rfl
            have v0 := XA.out.get 0 rfl
            have v1 := XA.out.get 1 rfl
            have hyl := Y.out.lt
            have hvl := XA.out.lt
            clear e0 e1 e2 e3 e4 e5 e6 x0 x1
            have zc := (World.cell?_alloc_lt wr (.cells #[.int .i64 g0, .int .i64 (s : Int), .int .i64 g2, .bool true, .bool g4, .bool false, .string g6] 45) ⟨bn, on + s, none⟩ hbn).trans zc0
            clear zc0
            refine wp_region_held_drew (S := fun w' => w'.cell? ⟨wr.heap.size, 0, none⟩ = some (.int .i64 g0) ∧ w'.cell? ⟨wr.heap.size, 1, none⟩ = some (.int .i64 (s : Int)) ∧ w'.cell? ⟨wr.heap.size, 2, none⟩ = some (.int .i64 g2) ∧ w'.cell? ⟨wr.heap.size, 3, none⟩ = some (.bool true) ∧ w'.cell? ⟨wr.heap.size, 4, none⟩ = some (.bool g4) ∧ w'.cell? ⟨wr.heap.size, 5, none⟩ = some (.bool false) ∧ w'.cell? ⟨wr.heap.size, 6, none⟩ = some (.string g6) ∧ w'.cell? ⟨w.heap.size, 0, none⟩ = some (.slice (some ⟨bn, on, none⟩) n c) ∧ w'.cell? ⟨w.heap.size, 1, none⟩ = some (.slice (some ⟨b, off, none⟩) m d) ∧ w'.cell? ⟨bn, on + s, none⟩ = some (.int .i64 x)) (by kernel_rfl) (by first | exact ⟨y0, y1, y2, y3, y4, y5, y6, v0, v1, zc⟩ | go_keep) (fun hHeld => ?_)
            refine wpAnyH_take (i := 0) (oi := ⟨some 18, _, _, _, _, _⟩) (v := ?_) rfl (by kernel_rfl) (by kernel_rfl) (by kernel_rfl) (fun _ _ _ h => h) (Or.inl ⟨by kernel_rfl, ?y76⟩) (by assumption) ?_
            case y76 => (intro w hSw; (try dsimp only at hSw); first | (go_simp; done) | (go_simp; with_reducible rfl))
            simp only [Act.put, List.setIfInBounds_toArray, List.set_cons_zero, List.set_cons_succ]
            refine wpAnyH_take (i := 1) (oi := ⟨some 19, _, _, _, _, _⟩) (v := ?_) rfl (by kernel_rfl) (by kernel_rfl) (by kernel_rfl) (fun _ _ _ h => h) (Or.inl ⟨by kernel_rfl, ?y77⟩) (by assumption) ?_
            case y77 => (intro w hSw; (try dsimp only at hSw); first | (go_simp; done) | (go_simp; with_reducible rfl))
            simp only [Act.put, List.setIfInBounds_toArray, List.set_cons_zero, List.set_cons_succ]
            refine wpAnyH_take (i := 2) (oi := ⟨some 20, _, _, _, _, _⟩) (v := ?_) rfl (by kernel_rfl) (by kernel_rfl) (by kernel_rfl) (fun _ _ _ h => h) (Or.inl ⟨by kernel_rfl, ?y78⟩) (by assumption) ?_
            case y78 => (intro w hSw; (try dsimp only at hSw); first | (go_simp; done) | (go_simp; with_reducible rfl))
            simp only [Act.put, List.setIfInBounds_toArray, List.set_cons_zero, List.set_cons_succ]
            refine wpAnyH_take (i := 3) (oi := ⟨some 21, _, _, _, _, _⟩) (v := ?_) rfl (by kernel_rfl) (by kernel_rfl) (by kernel_rfl) (fun _ _ _ h => h) (Or.inl ⟨by kernel_rfl, ?y79⟩) (by assumption) ?_
            case y79 => (intro w hSw; (try dsimp only at hSw); first | (go_simp; done) | (go_simp; with_reducible rfl))
            simp only [Act.put, List.setIfInBounds_toArray, List.set_cons_zero, List.set_cons_succ]
            refine wpAnyH_take (i := 4) (oi := ⟨some 22, _, _, _, _, _⟩) (v := ?_) rfl (by kernel_rfl) (by kernel_rfl) (by kernel_rfl) (fun _ _ _ h => h) (Or.inl ⟨by kernel_rfl, ?y80⟩) (by assumption) ?_
            case y80 => (intro w hSw; (try dsimp only at hSw); first | (go_simp; done) | (go_simp; with_reducible rfl))
            simp only [Act.put, List.setIfInBounds_toArray, List.set_cons_zero, List.set_cons_succ]
            refine wpAnyH_take (i := 5) (oi := ⟨some 23, _, _, _, _, _⟩) (v := ?_) rfl (by kernel_rfl) (by kernel_rfl) (by kernel_rfl) (fun _ _ _ h => h) (Or.inl ⟨by kernel_rfl, ?y81⟩) (by assumption) ?_
            case y81 => (intro w hSw; (try dsimp only at hSw); first | (go_simp; done) | (go_simp; with_reducible rfl))
            simp only [Act.put, List.setIfInBounds_toArray, List.set_cons_zero, List.set_cons_succ]
            refine wpAnyH_take (i := 6) (oi := ⟨some 24, _, _, _, _, _⟩) (v := ?_) rfl (by kernel_rfl) (by kernel_rfl) (by kernel_rfl) (fun _ _ _ h => h) (Or.inl ⟨by kernel_rfl, ?y82⟩) (by assumption) ?_
            case y82 => (intro w hSw; (try dsimp only at hSw); first | (go_simp; done) | (go_simp; with_reducible rfl))
            simp only [Act.put, List.setIfInBounds_toArray, List.set_cons_zero, List.set_cons_succ]
            refine wpAnyH_take (i := 7) (oi := ⟨some 25, _, _, _, _, _⟩) (v := ?_) rfl (by kernel_rfl) (by kernel_rfl) (by kernel_rfl) (fun _ _ _ h => h) (Or.inl ⟨by kernel_rfl, ?y83⟩) (by assumption) ?_
            case y83 => (intro w hSw; (try dsimp only at hSw); first | (go_simp; done) | (go_simp; with_reducible rfl))
            simp only [Act.put, List.setIfInBounds_toArray, List.set_cons_zero, List.set_cons_succ]
            refine wpAnyH_take (i := 8) (oi := ⟨some 26, _, _, _, _, _⟩) (v := ?_) rfl (by kernel_rfl) (by kernel_rfl) (by kernel_rfl) (fun _ _ _ h => h) (Or.inl ⟨by kernel_rfl, ?y84⟩) (by assumption) ?_
            case y84 => (intro w hSw; (try dsimp only at hSw); first | (go_simp; done) | (go_simp; with_reducible rfl))
            simp only [Act.put, List.setIfInBounds_toArray, List.set_cons_zero, List.set_cons_succ]
            refine wpAnyH_take (i := 9) (oi := ⟨some 27, _, _, _, _, _⟩) (v := ?_) rfl (by kernel_rfl) (by kernel_rfl) (by kernel_rfl) (fun _ _ _ h => h) (Or.inl ⟨by kernel_rfl, ?y85⟩) (by assumption) ?_
            case y85 => (intro w hSw; (try dsimp only at hSw); first | (go_simp; done) | (go_simp; with_reducible rfl))
            simp only [Act.put, List.setIfInBounds_toArray, List.set_cons_zero, List.set_cons_succ]
            refine wpAnyH_take (i := 10) (oi := ⟨some 28, _, _, _, _, _⟩) (v := ?_) rfl (by kernel_rfl) (by kernel_rfl) (by kernel_rfl) (fun _ _ _ h => h) (Or.inl ⟨by kernel_rfl, ?y86⟩) (by assumption) ?_
            case y86 => (intro w hSw; (try dsimp only at hSw); first | (go_simp; done) | (go_simp; with_reducible rfl))
            simp only [Act.put, List.setIfInBounds_toArray, List.set_cons_zero, List.set_cons_succ]
            refine wpAnyH_take (i := 11) (oi := ⟨some 29, _, _, _, _, _⟩) (v := ?_) rfl (by kernel_rfl) (by kernel_rfl) (by kernel_rfl) (fun _ _ _ h => h) (Or.inl ⟨by kernel_rfl, ?y87⟩) (by assumption) ?_
            case y87 => (intro w hSw; (try dsimp only at hSw); first | (go_simp; done) | (go_simp; with_reducible rfl))
            simp only [Act.put, List.setIfInBounds_toArray, List.set_cons_zero, List.set_cons_succ]
            refine wpAnyH_take (i := 12) (oi := ⟨some 30, _, _, _, _, _⟩) (v := ?_) rfl (by kernel_rfl) (by kernel_rfl) (by kernel_rfl) (fun _ _ _ h => h) (Or.inl ⟨by kernel_rfl, ?y88⟩) (by assumption) ?_
            case y88 => (intro w hSw; (try dsimp only at hSw); first | (go_simp; done) | (go_simp; with_reducible rfl))
            simp only [Act.put, List.setIfInBounds_toArray, List.set_cons_zero, List.set_cons_succ]
            refine wpAnyH_take (i := 13) (oi := ⟨some 31, _, _, _, _, _⟩) (v := ?_) rfl (by kernel_rfl) (by kernel_rfl) (by kernel_rfl) (fun _ _ _ h => h) (Or.inl ⟨by kernel_rfl, ?y89⟩) (by assumption) ?_
            case y89 => (intro w hSw; (try dsimp only at hSw); first | (go_simp; done) | (go_simp; with_reducible rfl))
            simp only [Act.put, List.setIfInBounds_toArray, List.set_cons_zero, List.set_cons_succ]
            refine wpAnyH_take (i := 14) (oi := ⟨some 32, _, _, _, _, _⟩) (v := ?_) rfl (by kernel_rfl) (by kernel_rfl) (by kernel_rfl) (fun _ _ _ h => h) (Or.inl ⟨by kernel_rfl, ?y90⟩) (by assumption) ?_
            case y90 => (intro w hSw; (try dsimp only at hSw); first | (go_simp; done) | (go_simp; with_reducible rfl))
            simp only [Act.put, List.setIfInBounds_toArray, List.set_cons_zero, List.set_cons_succ]
            refine wpAnyH_take (i := 15) (oi := ⟨some 33, _, _, _, _, _⟩) (v := ?_) rfl (by kernel_rfl) (by kernel_rfl) (by kernel_rfl) (fun _ _ _ h => h) (Or.inl ⟨by kernel_rfl, ?y91⟩) (by assumption) ?_
            case y91 => (intro w hSw; (try dsimp only at hSw); first | (go_simp; done) | (go_simp; with_reducible rfl))
            simp only [Act.put, List.setIfInBounds_toArray, List.set_cons_zero, List.set_cons_succ]
            refine wpAnyH_take (i := 16) (oi := ⟨some 34, _, _, _, _, _⟩) (v := ?_) rfl (by kernel_rfl) (by kernel_rfl) (by kernel_rfl) (fun _ _ _ h => h) (Or.inl ⟨by kernel_rfl, ?y92⟩) (by assumption) ?_
            case y92 => (intro w hSw; (try dsimp only at hSw); first | (go_simp; done) | (go_simp; with_reducible rfl))
            simp only [Act.put, List.setIfInBounds_toArray, List.set_cons_zero, List.set_cons_succ]
            refine wpAnyH_done (by kernel_rfl) ?_ _
            clear y0 y1 y2 y3 y4 y5 y6 v0 v1 zc
            have v0 := XA.out.drew.get 0 rfl
            have v1 := XA.out.drew.get 1 rfl
            have HE := Lib.hid ((due_no HD.out (.inl (by simp [turnB, HXX.out]; exact fun h => hsx h.symm))).symm.trans hE.out)
            clear hE
            go_wp2
            go_roundw
            case rel => exact ⟨k + 1, by omega, by go_num, HE, XA.out.drew, BA.out.drew⟩
            case measure => simp [intOf]; omega
    · have HE := Lib.hid ((due_end (by rw [HM.out]; omega)).symm.trans hE.out : [] = R)
      clear hE
      go_wp2
      go_ret
      exact ⟨some ⟨wr.heap.size, 0, none⟩, 0, 0, rfl, by rw [← HE.out]; rfl, (fun h => nomatch h), by rw [← HE.out]; exact (Own.made wr wr.heap.size 3 1 #[] 0 (Nat.le_refl _) (by unfold maxLen; omega) rfl).lower B.out.size, B.out.alloc B.out.size _⟩
end Go.Proofs.Ytkhaodbcnnlhaaa
