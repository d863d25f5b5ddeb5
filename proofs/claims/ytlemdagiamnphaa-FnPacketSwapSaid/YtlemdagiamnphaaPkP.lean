/-
  What PacketPut returns, in the program and in the reference. Conditions: the chunks can be read.
-/
import Derived.Test.YtlemdagiamnphaaPkV
import Derived.Test.YtlemdagiamnphaaChkP
import Derived.Test.YtlemdagiamnphaaSumW
import Derived.Test.YtlemdagiamnphaaByteW
import Derived.Deep.DeepCutAuto
namespace Go.Proofs.Ytlemdagiamnphaa
open Go.ChangeShapes Go.WideShapes Go.ChangeAt Go.RowKit
set_option linter.unusedVariables false
set_option linter.unusedSimpArgs false

theorem packPut_yes {f t g : Int} {l : List Chk} (h : packB f t g l = true) : packPut f t g l = mk (packBytes f t g l) := if_pos h
theorem packPut_no {f t g : Int} {l : List Chk} (h : packB f t g l = false) : packPut f t g l = ⟨#[]⟩ := if_neg (by simp [h])
theorem restBytes_take {l : List Chk} {k : Nat} {r : Chk} (h : l[k]? = some r) : restBytes (l.take (k + 1)) = restBytes (l.take k) ++ chunkBytes r := by rw [ftake_succ h, restBytes_snoc]
theorem cbytes_le {c : Chk} (h : chunkB c = true) : (chunkBytes c).length ≤ 67 := by
  have h1 := chunkB_true h
  have h3 := pad_lt (4 + c.2.2.size)
  rw [chunkBytes_len]
  omega
set_option maxHeartbeats 1600000 in
set_option maxRecDepth 100000 in
theorem ipack_put (f t g : Int) (A : Option Addr) (n c : Nat) (l : List Chk) (w : World) (hs : Sl w w.heap.size A (chks l)) (hn : l.length = n) (hm : n ≤ 9223372036854775807) (hb : Bods l) :
    Calls Try.prog 14 #[packV f t g A n c] w fun e w' => e = .returned (.string (packPut f t g l)) ∧ Below w.heap.size w w' := by
  have HS := Lib.hid hs; have HN := Lib.hid hn; have HB := Lib.hid hb; clear hs hn hb
  by_cases h : packB f t g l = true
  · obtain ⟨⟨f1, f2, t1, t2, ft, g1, g2, n1, n2⟩, hall⟩ := packB_true h
    have hn4 : n ≤ 4 := by have := HN.out; omega
    have HALL := Lib.hid hall
    have HP := Lib.hid (packPut_yes h)
    have PV := Lib.hid (fun (A : Option Addr) (c : Nat) (w : World) hs => (by rw [← h]; exact ipack_valid f t g A n c l w hs HN.out hm HB.out : Calls Try.prog 30 #[packV f t g A n c] w fun e w' => e = .returned (.bool true) ∧ Below w.heap.size w w'))
    obtain ⟨G, hG⟩ : ∃ G, G = mk (long g.toNat) := ⟨_, rfl⟩
    have CL := Lib.hid (fun w => (by rw [hG]; exact ilong_put g g1 g2 w : Calls Try.prog 35 #[.int .i64 g] w fun e w' => e = .returned (.tuple #[.string G, .bool true]) ∧ Below w.heap.size w w'))
    obtain ⟨U, hU⟩ : ∃ U, U = mk (word f.toNat ++ word t.toNat) := ⟨_, rfl⟩
    have CW := Lib.hid (fun (w : World) (A : Option Addr) (c : Nat) (hs : Sl w w.heap.size A ([f, t].map (Value.int .i64))) => (by
      rw [hU]
      have := iwords A 2 c [f, t] w hs rfl (by omega) (fun z hz => by simp at hz; omega)
      simpa [wordsOf] using this : Calls Try.prog 36 #[.slice A 2 c] w fun e w' => e = .returned (.string U) ∧ Below w.heap.size w w'))
    have zG : G.size = 4 := by rw [hG]; rfl
    have zU : U.size = 4 := by rw [hU]; rfl
    have HH := Lib.hid (show U ++ G = mk (headBytes f t g) from by rw [hU, hG, mk_append]; rfl)
    have hzH := bsize U G
    clear hG hU h hall
    go_enter Try.func14, Try.ntmps14
    go_wp2_with fail
    refine (PV.out _ _ _ ((HS.out.alloc (Nat.le_refl _) _).more (by simp))).mono ?_
    rintro e w1 ⟨rfl, b1'⟩
    obtain ⟨q1, z1, b1⟩ := boxed b1'
    have x0 : w1.cell? ⟨w.heap.size, 0, none⟩ = some (.int .i64 f) := q1.get 0 rfl
    have x1 : w1.cell? ⟨w.heap.size, 1, none⟩ = some (.int .i64 t) := q1.get 1 rfl
    have x2 : w1.cell? ⟨w.heap.size, 2, none⟩ = some (.int .i64 g) := q1.get 2 rfl
    have Q1 := Lib.hid q1
    have B1 := Lib.hid b1
    clear b1 b1' q1
    go_wp2_with fail
    refine (CL.out _).mono ?_
    rintro e w2 ⟨rfl, b2⟩
    have Q2 := Lib.hid (Q1.out.below b2 Q1.out.lt)
    have y0 : w2.cell? ⟨w.heap.size, 0, none⟩ = some (.int .i64 f) := Q2.out.get 0 rfl
    have y1 : w2.cell? ⟨w.heap.size, 1, none⟩ = some (.int .i64 t) := Q2.out.get 1 rfl
    have B2 := Lib.hid (bstep B1.out b2 B1.out.size)
    clear b2 x0 x1 x2
    go_wp2_with fail
    refine (CW.out _ _ _ (Sl.more (sl_new (w := w2) (cs := #[.int .i64 f, .int .i64 t]) (t := 3) rfl) (by simp))).mono ?_
    rintro e w3 ⟨rfl, b3'⟩
    obtain ⟨q3, z3, b3⟩ := boxed b3'
    have Q3 := Lib.hid (Q2.out.below b3 Q2.out.lt)
    have v3 : w3.cell? ⟨w.heap.size, 3, none⟩ = some (.slice A n c) := Q3.out.get 3 rfl
    have B3 := Lib.hid (bstep B2.out b3 B2.out.size)
    have HS3 := Lib.hid ((HS.out.below B3.out (Nat.le_refl _)).more B3.out.size)
    have hadd0 := fun w : World => run_string_add_sum (P := Try.prog) (w := w) U G (by omega)
    clear b3 b3' q3 y0 y1
    go_wp2
    go_loopw [6, 31] (fun s i wr => ∃ (k : Nat) (S : ByteArray), k ≤ n ∧ i = .int .i64 k ∧ s = .string S ∧ Hid (S = mk (restBytes (l.take k))) ∧ S.size ≤ 67 * k ∧ Below w3.heap.size w3 wr) (fun _ i _ => n - (intOf i).toNat)
    case atStart => exact ⟨0, ⟨#[]⟩, by omega, rfl, rfl, Lib.hid rfl, Nat.zero_le _, Below.refl _ _⟩
    case round =>
      obtain ⟨k, S, hk, rfl, rfl, hS, hSz, hb⟩ := hrel
      have BR := Lib.hid hb
      clear hb
      by_cases hlt : k < n
      · obtain ⟨r, hr⟩ := fget_of_lt (xs := l) (k := k) (by rw [HN.out]; exact hlt)
        obtain ⟨b, off, rfl, hbl, e1, e2, e3⟩ := chks_elem ((HS3.out.below BR.out (Nat.le_refl _)).more BR.out.size) hr
        have hmem := List.mem_of_getElem? hr
        have hcb := HALL.out r hmem
        have hsz := HB.out r hmem
        have HA := Lib.hid (restBytes_take hr)
        have hle := cbytes_le hcb
        obtain ⟨x, y, z⟩ := r
        change z.size ≤ 9223372036854775807 at hsz
        obtain ⟨T, hT⟩ : ∃ T, T = mk (chunkBytes (x, y, z)) := ⟨_, rfl⟩
        have CP := Lib.hid (fun w => (by rw [hT, ← chunkPut_yes hcb]; exact ichunk_put x y z hsz w : Calls Try.prog 37 #[.agg #[.int .i64 x, .int .i64 y, .string z]] w fun e w' => e = .returned (.string T) ∧ Below w.heap.size w w'))
        have hTz : T.size ≤ 67 := by rw [hT, mk_size]; exact hle
        have HK := Lib.hid (show mk (restBytes (l.take (k + 1))) = S ++ T from by rw [HA.out, hS.out, hT, mk_append])
        have hz := bsize S T
        have hz2 : (S ++ T).size ≤ 67 * (k + 1) := by rw [hz]; omega
        clear hr HA hT hcb hmem hle hz hS
        go_wp2_with fail
        refine (CP.out _).mono ?_
        rintro e w5 ⟨rfl, b5'⟩
        obtain ⟨q5, z5, b5⟩ := boxed b5'
        have B5 := Lib.hid (bstep BR.out b5 BR.out.size)
        clear b5 b5' q5 e1 e2 e3
        go_wp2
        go_roundw
        case rel => exact ⟨k + 1, S ++ T, by omega, by go_num, rfl, Lib.hid HK.out.symm, hz2, B5.out⟩
        case measure => simp [intOf]; omega
      · have HE := Lib.hid (show S = mk (restBytes l) from by rw [hS.out, List.take_of_length_le (by rw [HN.out]; omega)])
        have hzz := bsize (U ++ G) ⟨#[0, 0, 0, 0]⟩
        have hz4 : (⟨#[0, 0, 0, 0]⟩ : ByteArray).size = 4 := rfl
        have hzx := bsize (U ++ G ++ ⟨#[0, 0, 0, 0]⟩) S
        have hA1 := fun w : World => run_string_add_sum (P := Try.prog) (w := w) (U ++ G) ⟨#[0, 0, 0, 0]⟩ (by omega)
        have hA2 := fun w : World => run_string_add_sum (P := Try.prog) (w := w) (U ++ G ++ ⟨#[0, 0, 0, 0]⟩) S (by omega)
        have hsX : (U ++ G ++ ⟨#[0, 0, 0, 0]⟩ ++ S).size ≤ 1100100 := by omega
        have HX := Lib.hid (show sumOf (bl (U ++ G ++ ⟨#[0, 0, 0, 0]⟩ ++ S)) = packSum f t g l from by
          rw [HH.out, HE.out]
          unfold packSum
          rw [bl_append, bl_append, bl_mk, bl_mk]
          rfl)
        obtain ⟨K, hK⟩ : ∃ K, K = packSum f t g l := ⟨_, rfl⟩
        have hKl : K < 4294967296 := by rw [hK]; exact sumOf_lt _
        have ST := Lib.hid (fun w => (by rw [hK, ← HX.out]; exact isum_text _ hsX w : Calls Try.prog 27 #[.string (U ++ G ++ ⟨#[0, 0, 0, 0]⟩ ++ S)] w (Quiet (.int .i64 (K : Int)) w)))
        obtain ⟨V, hV⟩ : ∃ V, V = mk (long K) := ⟨_, rfl⟩
        have CV := Lib.hid (fun w => (by rw [hV]; have := ilong_put (K : Int) (by omega) (by omega) w; simpa using this : Calls Try.prog 35 #[.int .i64 (K : Int)] w fun e w' => e = .returned (.tuple #[.string V, .bool true]) ∧ Below w.heap.size w w'))
        have zV : V.size = 4 := by rw [hV]; rfl
        have hzy := bsize (U ++ G) V
        have hA3 := fun w : World => run_string_add_sum (P := Try.prog) (w := w) (U ++ G) V (by omega)
        have hA4 := fun w : World => run_string_add_sum (P := Try.prog) (w := w) (U ++ G ++ V) S (by omega)
        have HF := Lib.hid (show U ++ G ++ V ++ S = mk (packBytes f t g l) from by
          rw [HH.out, hV, HE.out, hK, mk_append, mk_append]
          rfl)
        clear hS hzz hzx hzy hK hV HX
        go_wp2_with fail
        refine (ST.out _).mono ?_
        rintro e w5 ⟨rfl, m5, rfl⟩
        go_wp2_with fail
        refine (CV.out _).mono ?_
        rintro e w6 ⟨rfl, b6⟩
        have B6 := Lib.hid (bstep (below_drewN BR.out m5) b6 BR.out.size)
        clear b6
        go_wp2
        go_ret
        exact ⟨by rw [HP.out, ← HF.out]; rfl, bstep B3.out B6.out B3.out.size⟩
  · have h : packB f t g l = false := by simpa using h
    have HP := Lib.hid (packPut_no h)
    go_enter Try.func14, Try.ntmps14
    go_wp2_with fail
    refine (ipack_valid f t g A n c l _ ((HS.out.alloc (Nat.le_refl _) _).more (by simp)) HN.out hm HB.out).mono ?_
    rw [h]
    rintro e w1 ⟨rfl, b1'⟩
    obtain ⟨q1, z1, b1⟩ := boxed b1'
    go_wp2
    go_ret
    exact ⟨by rw [HP.out]; rfl, b1⟩
end Go.Proofs.Ytlemdagiamnphaa
