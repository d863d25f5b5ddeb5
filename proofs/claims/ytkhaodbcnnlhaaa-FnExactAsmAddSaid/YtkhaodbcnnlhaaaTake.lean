/-
  What the reference takes out: the message and what is left. Conditions: those that each theorem bears.
-/
import Derived.Test.YtkhaodbcnnlhaaaDue
namespace Go.Proofs.Ytkhaodbcnnlhaaa
open Go.ChangeShapes Go.WideShapes Go.ChangeAt Go.RowKit
set_option linter.unusedVariables false
set_option linter.unusedSimpArgs false
theorem far_cell {w : World} {g o : Nat} {v : Value} (h : w.cell? ⟨g, o, none⟩ = some v) {p : Addr} (hp : g ≠ p.block) (u : Value) : (w.setCell p u).cell? ⟨g, o, none⟩ = some v :=
  (World.cell?_setCell_other w p ⟨g, o, none⟩ u (fun e => hp (by rw [e]))).trans h
theorem drewfar {w : World} {g o : Nat} {v : Value} (h : w.cell? ⟨g, o, none⟩ = some v) {p : Addr} (hp : g ≠ p.block) (u : Value) : (w.setCell p u).drew.cell? ⟨g, o, none⟩ = some v := far_cell h hp u
theorem drew_cell {w : World} {a : Addr} {v : Value} (h : w.cell? a = some v) : w.drew.cell? a = some v := h
theorem sl_nat {w : World} {B b o : Nat} {R : List Nat} (h : Sl w B (some ⟨b, o, none⟩) (nats R)) {i y : Nat} (hy : R[i]? = some y) : b < B ∧ w.cell? ⟨b, o + i, none⟩ = some (.int .i64 (y : Int)) := by
  obtain ⟨b', o', hA, hb, hc⟩ := h i _ (nats_at hy)
  injection hA with hA
  injection hA with h1 h2
  subst h1 h2
  exact ⟨hb, hc⟩
theorem sl_dat {w : World} {B b o : Nat} {ps : List Dat} (h : Sl w B (some ⟨b, o, none⟩) (dats ps)) {k : Nat} {d : Dat} (hd : ps[k]? = some d) : b < B ∧ DatAt w b (o + k * 7) d := by
  obtain ⟨b', o', hA, hb, hc⟩ := dats_elem h hd
  injection hA with hA
  injection hA with h1 h2
  subst h1 h2
  exact ⟨hb, hc⟩
/-- The boxes of the walk. -/
structure TkS (w wr : World) (cX cY cM : Array Value) : Prop where
  x : Blk wr w.heap.size cX 41
  z : Blk wr (w.heap.size + 1) #[.slice none 0 0, .slice none 0 0] 41
  v : Blk wr (w.heap.size + 2) #[.int .i64 0, .int .i64 0, .bool false, .string ⟨#[]⟩] 64
  y : Blk wr (w.heap.size + 3) cY 45
  m : Blk wr (w.heap.size + 4) cM 64
  b : Below w.heap.size w wr
section
variable {w wr w' : World} {cX cY cM : Array Value}
theorem TkS.lt (h : TkS w wr cX cY cM) : w.heap.size + 5 ≤ wr.heap.size := h.m.lt
theorem TkS.drew (h : TkS w wr cX cY cM) : TkS w wr.drew cX cY cM := ⟨h.x.drew, h.z.drew, h.v.drew, h.y.drew, h.m.drew, h.b.drew⟩
theorem TkS.alloc (h : TkS w wr cX cY cM) (o : Obj) : TkS w (wr.alloc o) cX cY cM := ⟨h.x.alloc o, h.z.alloc o, h.v.alloc o, h.y.alloc o, h.m.alloc o, h.b.alloc h.b.size o⟩
theorem TkS.setM (h : TkS w wr cX cY cM) (i : Nat) (u : Value) : TkS w (wr.setCell ⟨w.heap.size + 4, i, none⟩ u) cX cY (cM.setIfInBounds i u) :=
  ⟨h.x.far (by show _ ≠ _ + _; omega) u, h.z.far (by show _ + _ ≠ _ + _; omega) u, h.v.far (by show _ + _ ≠ _ + _; omega) u, h.y.far (by show _ + _ ≠ _ + _; omega) u, h.m.set_ i u, h.b.setCell (by show _ ≤ _ + _; omega) u⟩
theorem TkS.far (h : TkS w wr cX cY cM) {p : Addr} (hp : w.heap.size + 5 ≤ p.block) (u : Value) : TkS w (wr.setCell p u) cX cY cM :=
  ⟨h.x.far (by omega) u, h.z.far (by omega) u, h.v.far (by omega) u, h.y.far (by omega) u, h.m.far (by omega) u, h.b.setCell (by omega) u⟩
theorem TkS.grown (h : TkS w wr cX cY cM) {row : Option Nat} (hg : wr.grownBy w' row) (hr : ∀ k, row = some k → w.heap.size + 5 ≤ k) : TkS w w' cX cY cM := by
  have ne : ∀ k, k < w.heap.size + 5 → some k ≠ row := fun k hk e => by
    have := hr k e.symm
    omega
  exact ⟨h.x.grown hg (ne _ (by omega)), h.z.grown hg (ne _ (by omega)), h.v.grown hg (ne _ (by omega)), h.y.grown hg (ne _ (by omega)), h.m.grown hg (ne _ (by omega)), h.b.grown hg h.b.size (fun k hk => by have := hr k hk; omega)⟩
end
theorem has_nat (A : Option Addr) (n c : Nat) (R : List Nat) (x : Nat) {v : Bool} (hv : R.contains x = v) (w : World) (hs : Sl w w.heap.size A (nats R)) (hn : R.length = n) (hm : n ≤ 9223372036854775807) :
    Calls Try.prog 58 #[.slice A n c, .int .i64 x] w fun e w' => e = .returned (.bool v) ∧ w = w' := by
  have HS := Lib.hid hs; have HN := Lib.hid hn; have HV := Lib.hid hv; clear hs hn hv
  go_enter Try.func58, Try.ntmps58
  go_wp2
  go_loop [5] (fun i => ∃ (k : Nat), k ≤ n ∧ i = .int .i64 k ∧ Hid ((R.drop k).contains x = v)) (fun i => n - (intOf i).toNat)
  case atStart => exact ⟨0, by omega, rfl, HV⟩
  case round =>
    obtain ⟨k, hk, rfl, ha⟩ := hrel
    by_cases hlt : k < n
    · obtain ⟨z, hz⟩ := fget_of_lt (xs := R) (k := k) (by rw [HN.out]; exact hlt)
      obtain ⟨b, off, rfl, hb, hc⟩ := HS.out.at_ (j := k) (by rw [nats_len, HN.out]; exact hlt)
      have e1 := hc k _ (nats_at hz)
      have hdr : R.drop k = z :: R.drop (k + 1) := by rw [List.drop_eq_getElem_cons (List.getElem?_eq_some_iff.1 hz).1, (List.getElem?_eq_some_iff.1 hz).2]
      have HA := Lib.hid (by have h := ha.out; rw [hdr, List.contains_cons] at h; exact h : (x == z || (R.drop (k + 1)).contains x) = v)
      clear ha hc hz hdr
      by_cases hx : z = x
      · subst hx
        have HE := Lib.hid (by rw [← HA.out]; simp : v = true)
        have heq : ((z : Int) == (z : Int)) = true := by simp
        clear HA
        go_wp2
        go_ret
        exact ⟨ret_bool HE.out.symm, rfl⟩
      · have hx' : ((z : Int) == (x : Int)) = false := by simp; omega
        have HE := Lib.hid (by have h := HA.out; rw [(by simp; omega : (x == z) = false), Bool.false_or] at h; exact h : (R.drop (k + 1)).contains x = v)
        clear HA
        go_wp2
        go_round
        case rel => exact ⟨k + 1, by omega, by go_num, HE⟩
        case measure => simp [intOf]; omega
    · have HE := Lib.hid (by have h := ha.out; rw [List.drop_eq_nil_of_le (by rw [HN.out]; omega)] at h; exact h.symm : v = false)
      go_wp2
      go_ret
      exact ⟨ret_bool HE.out.symm, rfl⟩
def TookP (nx : List Int) (ps : List Dat) (R : List Nat) (d : Dat) (w : World) (e : Ending) (w' : World) : Prop :=
  ∃ A1 n1 c1 A3 m3 c3, e = .returned (.tuple #[.agg #[.slice A1 n1 c1, .slice A3 m3 c3], .agg #[.int .i64 d.stream, .int .i64 d.ssn, .bool d.loose, .string (textA ps R ⟨#[]⟩)]]) ∧ (restA R ps 0).length = m3 ∧ (nextA nx d).length = n1 ∧
    Own w' w.heap.size 3 1 A1 n1 c1 (ints (nextA nx d)) ∧ Own w' w.heap.size 45 7 A3 m3 c3 (dats (restA R ps 0)) ∧ Below w.heap.size w w'
set_option maxHeartbeats 12800000 in
set_option maxRecDepth 100000 in
theorem stake (A : Option Addr) (n c : Nat) (nx : List Int) (A2 : Option Addr) (m d : Nat) (ps : List Dat) (x : Nat) (cs : List Nat) (Ac : Option Addr) (q cc : Nat) {dd : Dat} (w : World) (hs : Sl w w.heap.size A (ints nx)) (hp : Sl w w.heap.size A2 (dats ps)) (hc : Sl w w.heap.size Ac (nats (x :: cs))) (hn : nx.length = n) (hm : ps.length = m) (hq : (x :: cs).length = q) (hf : Fit nx ps) (hn4 : n ≤ 1048576) (hx : ps[x]? = some dd) (hall : ∀ y ∈ x :: cs, y < ps.length) (hq13 : q ≤ 13) :
    Calls Try.prog 40 #[.agg #[.slice A n c, .slice A2 m d], .slice Ac q cc] w (TookP nx ps (x :: cs) dd w) := by
  obtain ⟨R, hR⟩ : ∃ R, R = x :: cs := ⟨_, rfl⟩
  rw [← hR] at hc hq hall ⊢
  have hR0 : R[0]? = some x := by rw [hR]; rfl
  clear hR
  have h13 : m ≤ 13 := by rw [← hm]; exact hf.len
  have hdk := hf.ok _ (List.mem_of_getElem? hx)
  have hb2 := datB_true hdk.1
  have hst0 := (okB_true hb2.2.1).1
  have hst1 := hdk.2
  rw [hn] at hst1
  have hok := hb2.2.2.1
  have hq0 : 0 < q := by rw [← hq]; exact (List.getElem?_eq_some_iff.1 hR0).1
  obtain ⟨bc, oc, rfl, hbc, hcc⟩ := hc.at_ (j := 0) (by rw [nats_len, hq]; exact hq0)
  have z0 := hcc 0 _ (nats_at hR0)
  clear hcc
  obtain ⟨b, off, rfl, hbl, ⟨e0, e1, e2, e3, e4, e5, e6⟩⟩ := dats_elem hp hx
  have hxm : x < m := by rw [← hm]; exact (List.getElem?_eq_some_iff.1 hx).1
  have HS := Lib.hid hs; have HP := Lib.hid hp; have HC := Lib.hid hc; have HN := Lib.hid hn; have HM := Lib.hid hm; have HQ := Lib.hid hq; have HF := Lib.hid hf; have HALL := Lib.hid hall; have HX := Lib.hid hx
  clear hs hp hc hn hm hq hf hall hx hb2 hdk hR0
  obtain ⟨g0, g1, g2, g3, g4, g5, g6⟩ := dd
  change (0 : Int) ≤ g1 at hst0
  change g1 < (n : Int) at hst1
  change okB g2 = true at hok
  obtain ⟨s, rfl⟩ : ∃ s : Nat, g1 = (s : Int) := ⟨g1.toNat, by omega⟩
  have hxi : (0 : Int) ≤ (x : Int) := by omega
  have hxm' : (x : Int) < (m : Int) := by omega
  have hqi : (0 : Int) < (q : Int) := by omega
  change World.cell? _ _ = some (.int .i64 g0) at e0
  change World.cell? _ _ = some (.int .i64 (s : Int)) at e1
  change World.cell? _ _ = some (.int .i64 g2) at e2
  change World.cell? _ _ = some (.bool g3) at e3
  change World.cell? _ _ = some (.bool g4) at e4
  change World.cell? _ _ = some (.bool g5) at e5
  change World.cell? _ _ = some (.string g6) at e6
  go_enter Try.func40, Try.ntmps40
  go_wp2
  obtain ⟨W, hW⟩ : ∃ W, W = (((w.alloc (.cells #[.slice A n c, .slice (some ⟨b, off, none⟩) m d] 41)).alloc (.cells #[.slice none 0 0, .slice none 0 0] 41)).alloc (.cells #[.int .i64 0, .int .i64 0, .bool false, .string ⟨#[]⟩] 64)) := ⟨_, rfl⟩
  have hwsz : W.heap.size = w.heap.size + 3 := by rw [hW]; simp
  have X := Lib.hid (by rw [hW]; exact ((Blk.new w _ _).alloc _).alloc _ : Blk W w.heap.size #[.slice A n c, .slice (some ⟨b, off, none⟩) m d] 41)
  have Z := Lib.hid (by rw [hW]; exact (Blk.new (w.alloc _) _ _).alloc _ : Blk W (w.alloc (.cells #[.slice A n c, .slice (some ⟨b, off, none⟩) m d] 41)).heap.size #[.slice none 0 0, .slice none 0 0] 41)
  have V := Lib.hid (by rw [hW]; exact Blk.new _ _ _ : Blk W (((w.alloc (.cells #[.slice A n c, .slice (some ⟨b, off, none⟩) m d] 41)).alloc (.cells #[.slice none 0 0, .slice none 0 0] 41))).heap.size #[.int .i64 0, .int .i64 0, .bool false, .string ⟨#[]⟩] 64)
  have B := Lib.hid (by rw [hW]; exact (((Below.refl w.heap.size w).alloc (Nat.le_refl _) _).alloc (by simp) _).alloc (by simp; omega) _ : Below w.heap.size w W)
  simp only [World.size_alloc] at Z V
  rw [← hW]
  clear hW
  have x0 := X.out.get 0 rfl
  have x1 := X.out.get 1 rfl
  have d0 := (B.out.cell (p := ⟨b, off + x * 7, none⟩) hbl).trans e0
  have d1 := (B.out.cell (p := ⟨b, off + x * 7 + 1, none⟩) hbl).trans e1
  have d2 := (B.out.cell (p := ⟨b, off + x * 7 + 2, none⟩) hbl).trans e2
  have d3 := (B.out.cell (p := ⟨b, off + x * 7 + 3, none⟩) hbl).trans e3
  have d4 := (B.out.cell (p := ⟨b, off + x * 7 + 4, none⟩) hbl).trans e4
  have d5 := (B.out.cell (p := ⟨b, off + x * 7 + 5, none⟩) hbl).trans e5
  have d6 := (B.out.cell (p := ⟨b, off + x * 7 + 6, none⟩) hbl).trans e6
  have dc := (B.out.cell (p := ⟨bc, oc + 0, none⟩) hbc).trans z0
  rw [Nat.add_zero] at dc
  clear e0 e1 e2 e3 e4 e5 e6 z0
  have hbw := B.out.size
  have hxl := X.out.lt
  have hblW : b < W.heap.size := by omega
  have hbcW : bc < W.heap.size := by omega
  refine wp_region_held_drew (S := fun w' => w'.cell? ⟨b, off + x * 7, none⟩ = some (.int .i64 g0) ∧ w'.cell? ⟨b, off + x * 7 + 1, none⟩ = some (.int .i64 (s : Int)) ∧ w'.cell? ⟨b, off + x * 7 + 2, none⟩ = some (.int .i64 g2) ∧ w'.cell? ⟨b, off + x * 7 + 3, none⟩ = some (.bool g3) ∧ w'.cell? ⟨b, off + x * 7 + 4, none⟩ = some (.bool g4) ∧ w'.cell? ⟨b, off + x * 7 + 5, none⟩ = some (.bool g5) ∧ w'.cell? ⟨b, off + x * 7 + 6, none⟩ = some (.string g6) ∧ w'.cell? ⟨bc, oc, none⟩ = some (.int .i64 (x : Int)) ∧ w'.cell? ⟨w.heap.size, 1, none⟩ = some (.slice (some ⟨b, off, none⟩) m d)) (by kernel_rfl) (by first | exact ⟨d0, d1, d2, d3, d4, d5, d6, dc, x1⟩ | go_keep) (fun hHeld => ?_)
  refine wpAnyH_take (i := 0) (oi := ⟨some 11, _, _, _, _, _⟩) (v := ?_) rfl (by kernel_rfl) (by kernel_rfl) (by kernel_rfl) (fun _ _ _ h => h) (Or.inl ⟨by kernel_rfl, ?y1⟩) (by assumption) ?_
  case y1 => (intro w hSw; (try dsimp only at hSw); first | (go_simp; done) | (go_simp; with_reducible rfl))
  simp only [Act.put, List.setIfInBounds_toArray, List.set_cons_zero, List.set_cons_succ]
  refine wpAnyH_take (i := 1) (oi := ⟨some 12, _, _, _, _, _⟩) (v := ?_) rfl (by kernel_rfl) (by kernel_rfl) (by kernel_rfl) (fun _ _ _ h => h) (Or.inl ⟨by kernel_rfl, ?y2⟩) (by assumption) ?_
  case y2 => (intro w hSw; (try dsimp only at hSw); first | (go_simp; done) | (go_simp; with_reducible rfl))
  simp only [Act.put, List.setIfInBounds_toArray, List.set_cons_zero, List.set_cons_succ]
  refine wpAnyH_take (i := 2) (oi := ⟨some 13, _, _, _, _, _⟩) (v := ?_) rfl (by kernel_rfl) (by kernel_rfl) (by kernel_rfl) (fun _ _ _ h => h) (Or.inl ⟨by kernel_rfl, ?y3⟩) (by assumption) ?_
  case y3 => (intro w hSw; (try dsimp only at hSw); first | (go_simp; done) | (go_simp; with_reducible rfl))
  simp only [Act.put, List.setIfInBounds_toArray, List.set_cons_zero, List.set_cons_succ]
  refine wpAnyH_take (i := 3) (oi := ⟨some 14, _, _, _, _, _⟩) (v := ?_) rfl (by kernel_rfl) (by kernel_rfl) (by kernel_rfl) (fun _ _ _ h => h) (Or.inl ⟨by kernel_rfl, ?y4⟩) (by assumption) ?_
  case y4 => (intro w hSw; (try dsimp only at hSw); first | (go_simp; done) | (go_simp; with_reducible rfl))
  simp only [Act.put, List.setIfInBounds_toArray, List.set_cons_zero, List.set_cons_succ]
  refine wpAnyH_take (i := 4) (oi := ⟨some 15, _, _, _, _, _⟩) (v := ?_) rfl (by kernel_rfl) (by kernel_rfl) (by kernel_rfl) (fun _ _ _ h => h) (Or.inl ⟨by kernel_rfl, ?y5⟩) (by assumption) ?_
  case y5 => (intro w hSw; (try dsimp only at hSw); first | (go_simp; done) | (go_simp; with_reducible rfl))
  simp only [Act.put, List.setIfInBounds_toArray, List.set_cons_zero, List.set_cons_succ]
  refine wpAnyH_take (i := 5) (oi := ⟨some 16, _, _, _, _, _⟩) (v := ?_) rfl (by kernel_rfl) (by kernel_rfl) (by kernel_rfl) (fun _ _ _ h => h) (Or.inl ⟨by kernel_rfl, ?y6⟩) (by assumption) ?_
  case y6 => (intro w hSw; (try dsimp only at hSw); first | (go_simp; done) | (go_simp; with_reducible rfl))
  simp only [Act.put, List.setIfInBounds_toArray, List.set_cons_zero, List.set_cons_succ]
  refine wpAnyH_take (i := 6) (oi := ⟨some 17, _, _, _, _, _⟩) (v := ?_) rfl (by kernel_rfl) (by kernel_rfl) (by kernel_rfl) (fun _ _ _ h => h) (Or.inl ⟨by kernel_rfl, ?y7⟩) (by assumption) ?_
  case y7 => (intro w hSw; (try dsimp only at hSw); first | (go_simp; done) | (go_simp; with_reducible rfl))
  simp only [Act.put, List.setIfInBounds_toArray, List.set_cons_zero, List.set_cons_succ]
  refine wpAnyH_ready (rs := [7]) (by kernel_rfl) (by simp) ?_
  refine AllReadyH.cons (o := ⟨some 6, _, _, _, _, _⟩) rfl (fun K hK => ?_) AllReadyH.nil
  go_simp
  refine hK.out _ _ (by first | exact ⟨d0, d1, d2, d3, d4, d5, d6, dc, x1⟩ | go_keep) (fun hHeld => ?_)
  clear hK K
  try simp only [Act.put, List.setIfInBounds_toArray, List.set_cons_zero, List.set_cons_succ]
  refine wpAnyH_ready (rs := [8]) (by kernel_rfl) (by simp) ?_
  refine AllReadyH.cons (o := ⟨none, _, _, _, _, _⟩) rfl (fun K hK => ?_) AllReadyH.nil
  go_simp
  refine hK.out _ _ (by first | exact ⟨d0, d1, d2, d3, d4, d5, d6, dc, x1⟩ | go_keep) (fun hHeld => ?_)
  clear hK K
  try simp only [Act.put, List.setIfInBounds_toArray, List.set_cons_zero, List.set_cons_succ]
  refine wpAnyH_done (by kernel_rfl) ?_ _
  have U := Lib.hid (⟨(X.out.alloc _).drew.alloc _, (Z.out.alloc _).drew.alloc _, (V.out.alloc _).drew.alloc _, by have h := (Blk.new W #[.int .i64 g0, .int .i64 (s : Int), .int .i64 g2, .bool g3, .bool g4, .bool g5, .string g6] 45).drew.alloc (.cells #[.int .i64 (s : Int), .int .i64 g2, .bool g5, .string ⟨#[]⟩] 64); rwa [hwsz] at h, by have h := Blk.new ((W.alloc (.cells #[.int .i64 g0, .int .i64 (s : Int), .int .i64 g2, .bool g3, .bool g4, .bool g5, .string g6] 45)).drew) #[.int .i64 (s : Int), .int .i64 g2, .bool g5, .string ⟨#[]⟩] 64; simp only [World.size_drew, World.size_alloc, hwsz] at h; exact h, ((B.out.alloc hbw _).drew).alloc (by simp; omega) _⟩ : TkS w ((W.alloc (.cells #[.int .i64 g0, .int .i64 (s : Int), .int .i64 g2, .bool g3, .bool g4, .bool g5, .string g6] 45)).drew.alloc (.cells #[.int .i64 (s : Int), .int .i64 g2, .bool g5, .string ⟨#[]⟩] 64)) #[.slice A n c, .slice (some ⟨b, off, none⟩) m d] #[.int .i64 g0, .int .i64 (s : Int), .int .i64 g2, .bool g3, .bool g4, .bool g5, .string g6] #[.int .i64 (s : Int), .int .i64 g2, .bool g5, .string ⟨#[]⟩])
  clear x0 x1 dc d0 d1 d2 d3 d4 d5 d6
  clear X Z V B
  have y1 : (W.alloc (.cells #[.int .i64 g0, .int .i64 (s : Int), .int .i64 g2, .bool g3, .bool g4, .bool g5, .string g6] 45)).drew.cell? ⟨w.heap.size + 3, 1, none⟩ = some (.int .i64 (s : Int)) := by have h := (Blk.new W #[.int .i64 g0, .int .i64 (s : Int), .int .i64 g2, .bool g3, .bool g4, .bool g5, .string g6] 45).drew.get 1 rfl; rwa [hwsz] at h
  have y2 : (W.alloc (.cells #[.int .i64 g0, .int .i64 (s : Int), .int .i64 g2, .bool g3, .bool g4, .bool g5, .string g6] 45)).drew.cell? ⟨w.heap.size + 3, 2, none⟩ = some (.int .i64 g2) := by have h := (Blk.new W #[.int .i64 g0, .int .i64 (s : Int), .int .i64 g2, .bool g3, .bool g4, .bool g5, .string g6] 45).drew.get 2 rfl; rwa [hwsz] at h
  have y5 : (W.alloc (.cells #[.int .i64 g0, .int .i64 (s : Int), .int .i64 g2, .bool g3, .bool g4, .bool g5, .string g6] 45)).drew.cell? ⟨w.heap.size + 3, 5, none⟩ = some (.bool g5) := by have h := (Blk.new W #[.int .i64 g0, .int .i64 (s : Int), .int .i64 g2, .bool g3, .bool g4, .bool g5, .string g6] 45).drew.get 5 rfl; rwa [hwsz] at h
  have hyl : w.heap.size + 3 < ((W.alloc (.cells #[.int .i64 g0, .int .i64 (s : Int), .int .i64 g2, .bool g3, .bool g4, .bool g5, .string g6] 45)).drew).heap.size := by simp; omega
  go_wp2
  obtain ⟨TX, hTX⟩ : ∃ T, textA ps R ⟨#[]⟩ = T := ⟨_, rfl⟩
  have HTX := Lib.hid hTX
  skip
  clear hTX
  go_loopw [8] (fun iv wr => ∃ (i : Nat) (T : ByteArray), i ≤ q ∧ iv = .int .i64 i ∧ Hid (textA ps (R.drop i) T = TX) ∧ T.size ≤ 20 * i ∧ TkS w wr #[.slice A n c, .slice (some ⟨b, off, none⟩) m d] #[.int .i64 g0, .int .i64 (s : Int), .int .i64 g2, .bool g3, .bool g4, .bool g5, .string g6] #[.int .i64 (s : Int), .int .i64 g2, .bool g5, .string T]) (fun iv _ => q - (intOf iv).toNat)
  case atStart => exact ⟨0, ⟨#[]⟩, by omega, rfl, HTX, by decide, U.out⟩
  case round =>
    obtain ⟨i, T, hi', rfl, hE, hTs, hU⟩ := hrel
    have U := Lib.hid hU
    clear hU
    have hul := U.out.lt
    by_cases hlt : i < q
    · obtain ⟨y, hy⟩ := fget_of_lt (xs := R) (k := i) (by rw [HQ.out]; exact hlt)
      have hym := HALL.out y (List.mem_of_getElem? hy)
      obtain ⟨e, he⟩ := fget_of_lt (xs := ps) (k := y) hym
      rw [HM.out] at hym
      obtain ⟨hb1, e6⟩ : b < wr.heap.size ∧ wr.cell? ⟨b, off + y * 7 + 6, none⟩ = some (.string e.text) := by
        obtain ⟨h1, h2⟩ := sl_dat ((HP.out.below U.out.b (Nat.le_refl _)).more U.out.b.size) he
        exact ⟨h1, h2.e6⟩
      obtain ⟨hbc1, ec⟩ := sl_nat ((HC.out.below U.out.b (Nat.le_refl _)).more U.out.b.size) hy
      have hb0 := (sl_dat HP.out he).1
      have hbc0 := (sl_nat HC.out hy).1
      have hes := (datB_true (HF.out.ok e (List.mem_of_getElem? he)).1).2.2.2.2
      have HE := Lib.hid ((text_step hy he T).symm.trans hE.out)
      clear hy he hE
      generalize e.text = t at e6 hes HE
      have hsz : (T ++ t).size = T.size + t.size := ByteArray.size_append
      have hcat : ¬ 9223372036854775807 < T.size + t.size := by omega
      have hyi : (0 : Int) ≤ (y : Int) := by omega
      have hym' : (y : Int) < (m : Int) := by omega
      have hii : (0 : Int) ≤ (i : Int) := by omega
      have hiq : (i : Int) < (q : Int) := by omega
      have x1 := U.out.x.get 1 rfl
      have hxl := U.out.x.lt
      go_wp2_with fail
      have m3 := U.out.m.get 3 rfl
      have mf := U.out.m.frozen 3
      have ml := U.out.m.lt
      have k1 := drewfar e6 (p := ⟨w.heap.size + 4, 3, none⟩) (by show b ≠ _ + _; omega) (.string (T ++ t))
      have k2 := drewfar ec (p := ⟨w.heap.size + 4, 3, none⟩) (by show bc ≠ _ + _; omega) (.string (T ++ t))
      have k3 := drewfar x1 (p := ⟨w.heap.size + 4, 3, none⟩) (by show _ ≠ _ + _; omega) (.string (T ++ t))
      refine wp_region_held_drew (S := fun w' => w'.cell? ⟨b, off + y * 7 + 6, none⟩ = some (.string t) ∧ w'.cell? ⟨bc, oc + i, none⟩ = some (.int .i64 (y : Int)) ∧ w'.cell? ⟨w.heap.size, 1, none⟩ = some (.slice (some ⟨b, off, none⟩) m d)) (by kernel_rfl) (by first | exact ⟨e6, ec, x1⟩) (fun hHeld => ?_)
      refine wpAnyH_take (i := 0) (oi := ⟨some 31, _, _, _, _, _⟩) (v := ?_) rfl (by kernel_rfl) (by kernel_rfl) (by kernel_rfl) (fun _ _ _ h => h) (Or.inl ⟨by kernel_rfl, ?y8⟩) (by assumption) ?_
      case y8 => (intro w hSw; (try dsimp only at hSw); first | (go_simp; done) | (go_simp; with_reducible rfl))
      simp only [Act.put, List.setIfInBounds_toArray, List.set_cons_zero, List.set_cons_succ]
      refine wpAnyH_take (i := 2) (oi := ⟨some 33, _, _, _, _, _⟩) (v := ?_) rfl (by kernel_rfl) (by kernel_rfl) (by kernel_rfl) (fun _ _ _ h => h) (Or.inl ⟨by kernel_rfl, ?y9⟩) (by assumption) ?_
      case y9 => (intro w hSw; (try dsimp only at hSw); first | (go_simp; done) | (go_simp; with_reducible rfl))
      simp only [Act.put, List.setIfInBounds_toArray, List.set_cons_zero, List.set_cons_succ]
      refine wpAnyH_take (i := 3) (oi := ⟨some 34, _, _, _, _, _⟩) (v := ?_) rfl (by kernel_rfl) (by kernel_rfl) (by kernel_rfl) (fun _ _ _ h => h) (Or.inl ⟨by kernel_rfl, ?y10⟩) (by assumption) ?_
      case y10 => (intro w hSw; (try dsimp only at hSw); first | (go_simp; done) | (go_simp; with_reducible rfl))
      simp only [Act.put, List.setIfInBounds_toArray, List.set_cons_zero, List.set_cons_succ]
      refine wpAnyH_take (i := 4) (oi := ⟨some 35, _, _, _, _, _⟩) (v := ?_) rfl (by kernel_rfl) (by kernel_rfl) (by kernel_rfl) (fun _ _ _ h => h) (Or.inl ⟨by kernel_rfl, ?y11⟩) (by assumption) ?_
      case y11 => (intro w hSw; (try dsimp only at hSw); first | (go_simp; done) | (go_simp; with_reducible rfl))
      simp only [Act.put, List.setIfInBounds_toArray, List.set_cons_zero, List.set_cons_succ]
      refine wpAnyH_take (i := 5) (oi := ⟨some 36, _, _, _, _, _⟩) (v := ?_) rfl (by kernel_rfl) (by kernel_rfl) (by kernel_rfl) (fun _ _ _ h => h) (Or.inl ⟨by kernel_rfl, ?y12⟩) (by assumption) ?_
      case y12 => (intro w hSw; (try dsimp only at hSw); first | (go_simp; done) | (go_simp; with_reducible rfl))
      simp only [Act.put, List.setIfInBounds_toArray, List.set_cons_zero, List.set_cons_succ]
      refine wpAnyH_take (i := 6) (oi := ⟨some 37, _, _, _, _, _⟩) (v := ?_) rfl (by kernel_rfl) (by kernel_rfl) (by kernel_rfl) (fun _ _ _ h => h) (Or.inl ⟨by kernel_rfl, ?y13⟩) (by assumption) ?_
      case y13 => (intro w hSw; (try dsimp only at hSw); first | (go_simp; done) | (go_simp; with_reducible rfl))
      simp only [Act.put, List.setIfInBounds_toArray, List.set_cons_zero, List.set_cons_succ]
      refine wpAnyH_take (i := 7) (oi := ⟨some 38, _, _, _, _, _⟩) (v := ?_) rfl (by kernel_rfl) (by kernel_rfl) (by kernel_rfl) (fun _ _ _ h => h) (Or.inl ⟨by kernel_rfl, ?y14⟩) (by assumption) ?_
      case y14 => (intro w hSw; (try dsimp only at hSw); first | (go_simp; done) | (go_simp; with_reducible rfl))
      simp only [Act.put, List.setIfInBounds_toArray, List.set_cons_zero, List.set_cons_succ]
      refine wpAnyH_take (i := 8) (oi := ⟨some 39, _, _, _, _, _⟩) (v := ?_) rfl (by kernel_rfl) (by kernel_rfl) (by kernel_rfl) (fun _ _ _ h => h) (Or.inl ⟨by kernel_rfl, ?y15⟩) (by assumption) ?_
      case y15 => (intro w hSw; (try dsimp only at hSw); first | (go_simp; done) | (go_simp; with_reducible rfl))
      simp only [Act.put, List.setIfInBounds_toArray, List.set_cons_zero, List.set_cons_succ]
      refine wpAnyH_take (i := 9) (oi := ⟨some 40, _, _, _, _, _⟩) (v := ?_) rfl (by kernel_rfl) (by kernel_rfl) (by kernel_rfl) (fun _ _ _ h => h) (Or.inl ⟨by kernel_rfl, ?y16⟩) (by assumption) ?_
      case y16 => (intro w hSw; (try dsimp only at hSw); first | (go_simp; done) | (go_simp; with_reducible rfl))
      simp only [Act.put, List.setIfInBounds_toArray, List.set_cons_zero, List.set_cons_succ]
      refine wpAnyH_take (i := 10) (oi := ⟨some 41, _, _, _, _, _⟩) (v := ?_) rfl (by kernel_rfl) (by kernel_rfl) (by kernel_rfl) (fun _ _ _ h => h) (Or.inl ⟨by kernel_rfl, ?y17⟩) (by assumption) ?_
      case y17 => (intro w hSw; (try dsimp only at hSw); first | (go_simp; done) | (go_simp; with_reducible rfl))
      simp only [Act.put, List.setIfInBounds_toArray, List.set_cons_zero, List.set_cons_succ]
      refine wpAnyH_ready (rs := [1]) (by kernel_rfl) (by simp) ?_
      refine AllReadyH.cons (o := ⟨some 32, _, _, _, _, _⟩) rfl (fun K hK => ?_) AllReadyH.nil
      go_simp
      refine hK.out _ _ (by first | exact ⟨e6, ec, x1⟩) (fun hHeld => ?_)
      clear hK K
      try simp only [Act.put, List.setIfInBounds_toArray, List.set_cons_zero, List.set_cons_succ]
      refine wpAnyH_take (i := 11) (oi := ⟨some 42, _, _, _, _, _⟩) (v := ?_) rfl (by kernel_rfl) (by kernel_rfl) (by kernel_rfl) (fun _ _ _ h => h) (Or.inl ⟨by kernel_rfl, ?y18⟩) (by assumption) ?_
      case y18 => (intro w hSw; (try dsimp only at hSw); first | (go_simp; done) | (go_simp; with_reducible rfl))
      simp only [Act.put, List.setIfInBounds_toArray, List.set_cons_zero, List.set_cons_succ]
      refine wpAnyH_take (i := 12) (oi := ⟨some 43, _, _, _, _, _⟩) (v := ?_) rfl (by kernel_rfl) (by kernel_rfl) (by kernel_rfl) (fun _ _ _ h => h) (Or.inl ⟨by kernel_rfl, ?y19⟩) (by assumption) ?_
      case y19 => (intro w hSw; (try dsimp only at hSw); first | (go_simp; done) | (go_simp; with_reducible rfl))
      simp only [Act.put, List.setIfInBounds_toArray, List.set_cons_zero, List.set_cons_succ]
      refine wpAnyH_ready (rs := [13]) (by kernel_rfl) (by simp) ?_
      refine AllReadyH.cons (o := ⟨none, _, _, _, _, _⟩) rfl (fun K hK => ?_) AllReadyH.nil
      go_simp
      refine hK.out _ _ (by first | exact ⟨k1, k2, k3⟩) (fun hHeld => ?_)
      clear hK K
      try simp only [Act.put, List.setIfInBounds_toArray, List.set_cons_zero, List.set_cons_succ]
      refine wpAnyH_done (by kernel_rfl) ?_ _
      clear k1 k2 k3 m3 mf e6 ec x1
      go_wp2
      go_roundw
      case rel => exact ⟨i + 1, T ++ t, by omega, by go_num, HE, by omega, (U.out.setM 3 _).drew⟩
      case measure => simp [intOf]; omega
    · have hTE := Lib.hid ((text_end (by rw [HQ.out]; omega) T).symm.trans hE.out)
      clear hE
      obtain rfl : T = TX := hTE.out
      clear hTE
      obtain ⟨i0, hi, hz0, hz1, hz2⟩ := info_parts info_int'
      have x0 := U.out.x.get 0 rfl
      have x1 := U.out.x.get 1 rfl
      have hxl := U.out.x.lt
      have hbs := U.out.b.size
      go_wp2_with (at_builtin; refine wpList_copy _ rfl _ _ _ rfl (w.heap.size + 5) 3 i0 (.int .i64 0) 1 8 Try.underlying33 hi hz0 hz1 hz2 rfl (by decide) (some ⟨wr.heap.size, 0, none⟩) 0 rfl ((Own.made wr wr.heap.size 3 1 #[] 0 (Nat.le_refl _) (by unfold maxLen; omega) rfl).lower hul) w.heap.size A n c (ints nx) rfl ((HS.out.below U.out.b (Nat.le_refl _)).alloc hbs _) (by rw [ints_len, HN.out, Nat.mul_one]) (ints_ones nx) (by unfold maxLen; omega) (by omega) (by simp; omega) ?_; intro A3 c3 row w3 o3 g3 r3 d3; have O3 := Lib.hid o3; have U3 := Lib.hid ((U.out.alloc _).grown g3 (fun k hk => by obtain ⟨a, ha, hab⟩ := r3 k hk; injection ha with ha; subst ha; simp only at hab; omega)); have hul3 := U3.out.lt; clear o3 g3 r3 d3)
      skip
      obtain ⟨RS, hRS⟩ : ∃ r, restA R ps 0 = r := ⟨_, rfl⟩
      have HRS := Lib.hid hRS
      clear hRS x0 x1
      have K9 := Lib.hid (Blk.new (w3.alloc (.cells #[] 45)) #[.slice A3 n c3, .slice (some ⟨w3.heap.size, 0, none⟩) 0 0] 41)
      simp only [World.size_alloc] at K9
      go_loopw [10] (fun iv wr => ∃ (k : Nat) (A5 : Option Addr) (m5 c5 : Nat) (l : List Dat), k ≤ m ∧ iv = .int .i64 k ∧ Hid (l.length = m5) ∧ m5 ≤ k ∧ Hid (l ++ restA R (ps.drop k) k = RS) ∧ Blk wr (w3.heap.size + 1) #[.slice A3 n c3, .slice A5 m5 c5] 41 ∧ Own wr (w.heap.size + 5) 3 1 A3 n c3 (ints nx) ∧ Own wr (w.heap.size + 5) 45 7 A5 m5 c5 (dats l) ∧ TkS w wr #[.slice A n c, .slice (some ⟨b, off, none⟩) m d] #[.int .i64 g0, .int .i64 (s : Int), .int .i64 g2, .bool g3, .bool g4, .bool g5, .string g6] #[.int .i64 (s : Int), .int .i64 g2, .bool g5, .string T]) (fun iv _ => m - (intOf iv).toNat)
      case atStart => exact ⟨0, some ⟨w3.heap.size, 0, none⟩, 0, 0, [], by omega, rfl, Lib.hid rfl, by omega, HRS, K9.out, (O3.out.alloc _).alloc _, ((Own.made w3 w3.heap.size 45 7 #[] 0 (Nat.le_refl _) (by unfold maxLen; omega) rfl).lower hul3).alloc _, (U3.out.alloc _).alloc _⟩
      case round =>
        skip
        obtain ⟨k, A5, m5, c5, l, hk, rfl, hl5, hm5, hE, hK9, hO3, hO5, hU⟩ := hrel
        have KB := Lib.hid hK9
        have P3 := Lib.hid hO3
        have P5 := Lib.hid hO5
        have U2 := Lib.hid hU
        clear hK9 hO3 hO5 hU
        have hu2 := U2.out.lt
        have hkl := KB.out.lt
        have x1 := U2.out.x.get 1 rfl
        have hxl2 := U2.out.x.lt
        have hb2 := U2.out.b.size
        by_cases hlt : k < m
        · obtain ⟨e, he⟩ := fget_of_lt (xs := ps) (k := k) (by rw [HM.out]; exact hlt)
          have hki : (0 : Int) ≤ (k : Int) := by omega
          have hkm : (k : Int) < (m : Int) := by omega
          obtain ⟨v, hv⟩ : ∃ v, R.contains k = v := ⟨_, rfl⟩
          go_wp2_with fail
          refine (has_nat _ _ _ R k hv _ ((HC.out.below U2.out.b (Nat.le_refl _)).more hb2) HQ.out (by omega)).mono ?_
          rintro e' w' ⟨rfl, rfl⟩
          cases v with
          | true =>
            have HE := Lib.hid (by have h := hE.out; rw [rest_yes he hv] at h; exact h : l ++ restA R (ps.drop (k + 1)) (k + 1) = RS)
            clear hE he hv x1
            go_wp2
            go_roundw
            case rel => exact ⟨k + 1, A5, m5, c5, l, by omega, by go_num, hl5, by omega, HE, KB.out, P3.out, P5.out, U2.out⟩
            case measure => simp [intOf]; omega
          | false =>
            have HE := Lib.hid (by have h := hE.out; rw [rest_no he hv, ← List.append_assoc] at h; exact h : (l ++ [e]) ++ restA R (ps.drop (k + 1)) (k + 1) = RS)
            clear hE hv
            obtain ⟨hb1, ⟨e0, e1, e2, e3, e4, e5, e6⟩⟩ := sl_dat ((HP.out.below U2.out.b (Nat.le_refl _)).more hb2) he
            have hb0 := (sl_dat HP.out he).1
            have HE0 := Lib.hid he
            clear he
            obtain ⟨f0, f1, f2, f3, f4, f5, f6⟩ := e
            change World.cell? _ ⟨b, off + k * 7, none⟩ = some (.int .i64 f0) at e0
            change World.cell? _ ⟨b, off + k * 7 + 1, none⟩ = some (.int .i64 f1) at e1
            change World.cell? _ ⟨b, off + k * 7 + 2, none⟩ = some (.int .i64 f2) at e2
            change World.cell? _ ⟨b, off + k * 7 + 3, none⟩ = some (.bool f3) at e3
            change World.cell? _ ⟨b, off + k * 7 + 4, none⟩ = some (.bool f4) at e4
            change World.cell? _ ⟨b, off + k * 7 + 5, none⟩ = some (.bool f5) at e5
            change World.cell? _ ⟨b, off + k * 7 + 6, none⟩ = some (.string f6) at e6
            obtain ⟨j0, hj, hy0, hy1, hy2⟩ := info_parts info_data
            go_wp2_with fail
            have c1' := KB.out.get 1 rfl
            have cf := KB.out.frozen 1
            have hsl := Lib.hid (sl_dat HP.out (k := k) (d := ⟨f0, f1, f2, f3, f4, f5, f6⟩) HE0.out).2
            have b_0 := hsl.out.e0
            have b_1 := hsl.out.e1
            have b_2 := hsl.out.e2
            have b_3 := hsl.out.e3
            have b_4 := hsl.out.e4
            have b_5 := hsl.out.e5
            have b_6 := hsl.out.e6
            skip
            refine wp_region_held_drew (S := fun w' => w'.cell? ⟨b, off + k * 7, none⟩ = some (.int .i64 f0) ∧ w'.cell? ⟨b, off + k * 7 + 1, none⟩ = some (.int .i64 f1) ∧ w'.cell? ⟨b, off + k * 7 + 2, none⟩ = some (.int .i64 f2) ∧ w'.cell? ⟨b, off + k * 7 + 3, none⟩ = some (.bool f3) ∧ w'.cell? ⟨b, off + k * 7 + 4, none⟩ = some (.bool f4) ∧ w'.cell? ⟨b, off + k * 7 + 5, none⟩ = some (.bool f5) ∧ w'.cell? ⟨b, off + k * 7 + 6, none⟩ = some (.string f6) ∧ w'.cell? ⟨w.heap.size, 1, none⟩ = some (.slice (some ⟨b, off, none⟩) m d)) (by kernel_rfl) (by first | exact ⟨e0, e1, e2, e3, e4, e5, e6, x1⟩ | exact ⟨q0, q1, q2, q3, q4, q5, q6, q7⟩ | exact ⟨r0, r1, r2, r3, r4, r5, r6, r7⟩ | go_keep) (fun hHeld => ?_)
            refine wpAnyH_take (i := 0) (oi := ⟨some 61, _, _, _, _, _⟩) (v := ?_) rfl (by kernel_rfl) (by kernel_rfl) (by kernel_rfl) (fun _ _ _ h => h) (Or.inl ⟨by kernel_rfl, ?y20⟩) (by assumption) ?_
            case y20 => (intro w hSw; (try dsimp only at hSw); first | (go_simp; done) | (go_simp; with_reducible rfl))
            simp only [Act.put, List.setIfInBounds_toArray, List.set_cons_zero, List.set_cons_succ]
            refine wpAnyH_take (i := 2) (oi := ⟨some 63, _, _, _, _, _⟩) (v := ?_) rfl (by kernel_rfl) (by kernel_rfl) (by kernel_rfl) (fun _ _ _ h => h) (Or.inl ⟨by kernel_rfl, ?y21⟩) (by assumption) ?_
            case y21 => (intro w hSw; (try dsimp only at hSw); first | (go_simp; done) | (go_simp; with_reducible rfl))
            simp only [Act.put, List.setIfInBounds_toArray, List.set_cons_zero, List.set_cons_succ]
            refine wpAnyH_take (i := 3) (oi := ⟨some 64, _, _, _, _, _⟩) (v := ?_) rfl (by kernel_rfl) (by kernel_rfl) (by kernel_rfl) (fun _ _ _ h => h) (Or.inl ⟨by kernel_rfl, ?y22⟩) (by assumption) ?_
            case y22 => (intro w hSw; (try dsimp only at hSw); first | (go_simp; done) | (go_simp; with_reducible rfl))
            simp only [Act.put, List.setIfInBounds_toArray, List.set_cons_zero, List.set_cons_succ]
            refine wpAnyH_take (i := 4) (oi := ⟨some 65, _, _, _, _, _⟩) (v := ?_) rfl (by kernel_rfl) (by kernel_rfl) (by kernel_rfl) (fun _ _ _ h => h) (Or.inl ⟨by kernel_rfl, ?y23⟩) (by assumption) ?_
            case y23 => (intro w hSw; (try dsimp only at hSw); first | (go_simp; done) | (go_simp; with_reducible rfl))
            simp only [Act.put, List.setIfInBounds_toArray, List.set_cons_zero, List.set_cons_succ]
            refine wpAnyH_take (i := 5) (oi := ⟨some 66, _, _, _, _, _⟩) (v := ?_) rfl (by kernel_rfl) (by kernel_rfl) (by kernel_rfl) (fun _ _ _ h => h) (Or.inl ⟨by kernel_rfl, ?y24⟩) (by assumption) ?_
            case y24 => (intro w hSw; (try dsimp only at hSw); first | (go_simp; done) | (go_simp; with_reducible rfl))
            simp only [Act.put, List.setIfInBounds_toArray, List.set_cons_zero, List.set_cons_succ]
            refine wpAnyH_take (i := 6) (oi := ⟨some 67, _, _, _, _, _⟩) (v := ?_) rfl (by kernel_rfl) (by kernel_rfl) (by kernel_rfl) (fun _ _ _ h => h) (Or.inl ⟨by kernel_rfl, ?y25⟩) (by assumption) ?_
            case y25 => (intro w hSw; (try dsimp only at hSw); first | (go_simp; done) | (go_simp; with_reducible rfl))
            simp only [Act.put, List.setIfInBounds_toArray, List.set_cons_zero, List.set_cons_succ]
            refine wpAnyH_ready (rs := [1, 7]) (by kernel_rfl) (by simp) ?_
            refine AllReadyH.cons (o := ⟨some 62, _, _, _, _, _⟩) rfl (fun K hK => ?_) ?_
            · skip
              go_simp
              refine hK.out _ _ (by first | exact ⟨e0, e1, e2, e3, e4, e5, e6, x1⟩ | exact ⟨q0, q1, q2, q3, q4, q5, q6, q7⟩ | exact ⟨r0, r1, r2, r3, r4, r5, r6, r7⟩ | go_keep) (fun hHeld => ?_)
              clear hK K
              try simp only [Act.put, List.setIfInBounds_toArray, List.set_cons_zero, List.set_cons_succ]
              refine wpAnyH_ready (rs := [7]) (by kernel_rfl) (by simp) ?_
              refine AllReadyH.cons (o := ⟨some 68, _, _, _, _, _⟩) rfl (fun K hK => ?_) AllReadyH.nil
              go_simp
              refine hK.out _ _ (by first | exact ⟨e0, e1, e2, e3, e4, e5, e6, x1⟩ | exact ⟨q0, q1, q2, q3, q4, q5, q6, q7⟩ | exact ⟨r0, r1, r2, r3, r4, r5, r6, r7⟩ | go_keep) (fun hHeld => ?_)
              clear hK K
              try simp only [Act.put, List.setIfInBounds_toArray, List.set_cons_zero, List.set_cons_succ]
              refine wpAnyH_ready (rs := [8]) (by kernel_rfl) (by simp) ?_
              refine AllReadyH.cons (o := ⟨some 69, _, _, _, _, _⟩) rfl (fun K hK => ?_) AllReadyH.nil
              (refine step_app _ (by rfl) _ _ _ (by rfl) (w.heap.size + 5) 45 j0 (.agg #[.int .i64 0, .int .i64 0, .int .i64 0, .bool false, .bool false, .bool false, .string ⟨#[]⟩]) 7 48 Try.underlying26 hj hy0 hy1 hy2 rfl (by decide) A5 m5 c5 (dats l) (by rfl) (P5.out.alloc (.cells #[.int .i64 f0, .int .i64 f1, .int .i64 f2, .bool f3, .bool f4, .bool f5, .string f6] 45)).drew (wr.heap.size + 1) (some ⟨wr.heap.size, 0, none⟩) 1 1 (dats [⟨f0, f1, f2, f3, f4, f5, f6⟩]) (by rfl) (Sl.drew (sl_new (w := wr) rfl)) rfl (dats_one _) (by unfold maxLen; omega) (by omega) (by simp; omega) ?_; intro A6 c6 row w6 o6 g6 r6 d6; rw [← dats_app] at o6; have O6 := Lib.hid o6; have K6 := Lib.hid (blk_at (KB.out.alloc (.cells #[.int .i64 f0, .int .i64 f1, .int .i64 f2, .bool f3, .bool f4, .bool f5, .string f6] 45)).drew g6 r6 ((P5.out.alloc (.cells #[.int .i64 f0, .int .i64 f1, .int .i64 f2, .bool f3, .bool f4, .bool f5, .string f6] 45)).drew.ne_blk (KB.out.alloc (.cells #[.int .i64 f0, .int .i64 f1, .int .i64 f2, .bool f3, .bool f4, .bool f5, .string f6] 45)).drew (by decide))); have U6 := Lib.hid ((U2.out.alloc (.cells #[.int .i64 f0, .int .i64 f1, .int .i64 f2, .bool f3, .bool f4, .bool f5, .string f6] 45)).drew.grown g6 (fun k hk => by obtain ⟨a, ha, hab⟩ := r6 k hk; have := (P5.out.blk a ha).1; omega)); have Q6 := Lib.hid (own_held (P3.out.alloc (.cells #[.int .i64 f0, .int .i64 f1, .int .i64 f2, .bool f3, .bool f4, .bool f5, .string f6] 45)).drew (P5.out.alloc (.cells #[.int .i64 f0, .int .i64 f1, .int .i64 f2, .bool f3, .bool f4, .bool f5, .string f6] 45)).drew (by decide) g6 r6); clear o6 g6 r6 d6; have q0 := (U6.out.b.cell (p := ⟨b, off + k * 7, none⟩) hb0).trans b_0; have q1 := (U6.out.b.cell (p := ⟨b, off + k * 7 + 1, none⟩) hb0).trans b_1; have q2 := (U6.out.b.cell (p := ⟨b, off + k * 7 + 2, none⟩) hb0).trans b_2; have q3 := (U6.out.b.cell (p := ⟨b, off + k * 7 + 3, none⟩) hb0).trans b_3; have q4 := (U6.out.b.cell (p := ⟨b, off + k * 7 + 4, none⟩) hb0).trans b_4; have q5 := (U6.out.b.cell (p := ⟨b, off + k * 7 + 5, none⟩) hb0).trans b_5; have q6 := (U6.out.b.cell (p := ⟨b, off + k * 7 + 6, none⟩) hb0).trans b_6; have q7 := U6.out.x.get 1 rfl; have c6' := K6.out.get 1 rfl; have cf6 := K6.out.frozen 1; have hk6 := K6.out.lt; have r0 := far_cell q0 (p := ⟨w3.heap.size + 1, 1, none⟩) (by show _ ≠ _ + _; omega) (.slice A6 (m5 + 1) c6); have r1 := far_cell q1 (p := ⟨w3.heap.size + 1, 1, none⟩) (by show _ ≠ _ + _; omega) (.slice A6 (m5 + 1) c6); have r2 := far_cell q2 (p := ⟨w3.heap.size + 1, 1, none⟩) (by show _ ≠ _ + _; omega) (.slice A6 (m5 + 1) c6); have r3 := far_cell q3 (p := ⟨w3.heap.size + 1, 1, none⟩) (by show _ ≠ _ + _; omega) (.slice A6 (m5 + 1) c6); have r4 := far_cell q4 (p := ⟨w3.heap.size + 1, 1, none⟩) (by show _ ≠ _ + _; omega) (.slice A6 (m5 + 1) c6); have r5 := far_cell q5 (p := ⟨w3.heap.size + 1, 1, none⟩) (by show _ ≠ _ + _; omega) (.slice A6 (m5 + 1) c6); have r6 := far_cell q6 (p := ⟨w3.heap.size + 1, 1, none⟩) (by show _ ≠ _ + _; omega) (.slice A6 (m5 + 1) c6); have r7 := far_cell q7 (p := ⟨w3.heap.size + 1, 1, none⟩) (by show _ ≠ _ + _; omega) (.slice A6 (m5 + 1) c6))
              refine hK.out _ _ (by first | exact ⟨e0, e1, e2, e3, e4, e5, e6, x1⟩ | exact ⟨q0, q1, q2, q3, q4, q5, q6, q7⟩ | exact ⟨r0, r1, r2, r3, r4, r5, r6, r7⟩ | go_keep) (fun hHeld => ?_)
              clear hK K
              try simp only [Act.put, List.setIfInBounds_toArray, List.set_cons_zero, List.set_cons_succ]
              refine wpAnyH_take (i := 9) (oi := ⟨some 70, _, _, _, _, _⟩) (v := ?_) rfl (by kernel_rfl) (by kernel_rfl) (by kernel_rfl) (fun _ _ _ h => h) (Or.inl ⟨by kernel_rfl, ?y26⟩) (by assumption) ?_
              case y26 => (intro w hSw; (try dsimp only at hSw); first | (go_simp; done) | (go_simp; with_reducible rfl))
              simp only [Act.put, List.setIfInBounds_toArray, List.set_cons_zero, List.set_cons_succ]
              refine wpAnyH_ready (rs := [10]) (by kernel_rfl) (by simp) ?_
              refine AllReadyH.cons (o := ⟨none, _, _, _, _, _⟩) rfl (fun K hK => ?_) AllReadyH.nil
              go_simp
              refine hK.out _ _ (by first | exact ⟨e0, e1, e2, e3, e4, e5, e6, x1⟩ | exact ⟨q0, q1, q2, q3, q4, q5, q6, q7⟩ | exact ⟨r0, r1, r2, r3, r4, r5, r6, r7⟩ | go_keep) (fun hHeld => ?_)
              clear hK K
              try simp only [Act.put, List.setIfInBounds_toArray, List.set_cons_zero, List.set_cons_succ]
              refine wpAnyH_done (by kernel_rfl) ?_ _
              go_wp2
              go_roundw
              case rel => exact ⟨k + 1, A6, m5 + 1, c6, l ++ [⟨f0, f1, f2, f3, f4, f5, f6⟩], by omega, by go_num, Lib.hid (by rw [List.length_append, hl5.out]; rfl), by omega, HE, by have h := K6.out.set_ 1 (.slice A6 (m5 + 1) c6); exact h, own_far Q6.out K6.out (by decide) 1 _, own_far O6.out K6.out (by decide) 1 _, U6.out.far (by show _ ≤ _ + _; omega) _⟩
              case measure => simp [intOf]; omega
            refine AllReadyH.cons (o := ⟨some 68, _, _, _, _, _⟩) rfl (fun K hK => ?_) ?_
            · skip
              go_simp
              refine hK.out _ _ (by first | exact ⟨e0, e1, e2, e3, e4, e5, e6, x1⟩ | exact ⟨q0, q1, q2, q3, q4, q5, q6, q7⟩ | exact ⟨r0, r1, r2, r3, r4, r5, r6, r7⟩ | go_keep) (fun hHeld => ?_)
              clear hK K
              try simp only [Act.put, List.setIfInBounds_toArray, List.set_cons_zero, List.set_cons_succ]
              refine wpAnyH_ready (rs := [1]) (by kernel_rfl) (by simp) ?_
              refine AllReadyH.cons (o := ⟨some 62, _, _, _, _, _⟩) rfl (fun K hK => ?_) AllReadyH.nil
              go_simp
              refine hK.out _ _ (by first | exact ⟨e0, e1, e2, e3, e4, e5, e6, x1⟩ | exact ⟨q0, q1, q2, q3, q4, q5, q6, q7⟩ | exact ⟨r0, r1, r2, r3, r4, r5, r6, r7⟩ | go_keep) (fun hHeld => ?_)
              clear hK K
              try simp only [Act.put, List.setIfInBounds_toArray, List.set_cons_zero, List.set_cons_succ]
              refine wpAnyH_ready (rs := [8]) (by kernel_rfl) (by simp) ?_
              refine AllReadyH.cons (o := ⟨some 69, _, _, _, _, _⟩) rfl (fun K hK => ?_) AllReadyH.nil
              (refine step_app _ (by rfl) _ _ _ (by rfl) (w.heap.size + 5) 45 j0 (.agg #[.int .i64 0, .int .i64 0, .int .i64 0, .bool false, .bool false, .bool false, .string ⟨#[]⟩]) 7 48 Try.underlying26 hj hy0 hy1 hy2 rfl (by decide) A5 m5 c5 (dats l) (by rfl) (P5.out.alloc (.cells #[.int .i64 f0, .int .i64 f1, .int .i64 f2, .bool f3, .bool f4, .bool f5, .string f6] 45)).drew (wr.heap.size + 1) (some ⟨wr.heap.size, 0, none⟩) 1 1 (dats [⟨f0, f1, f2, f3, f4, f5, f6⟩]) (by rfl) (Sl.drew (sl_new (w := wr) rfl)) rfl (dats_one _) (by unfold maxLen; omega) (by omega) (by simp; omega) ?_; intro A6 c6 row w6 o6 g6 r6 d6; rw [← dats_app] at o6; have O6 := Lib.hid o6; have K6 := Lib.hid (blk_at (KB.out.alloc (.cells #[.int .i64 f0, .int .i64 f1, .int .i64 f2, .bool f3, .bool f4, .bool f5, .string f6] 45)).drew g6 r6 ((P5.out.alloc (.cells #[.int .i64 f0, .int .i64 f1, .int .i64 f2, .bool f3, .bool f4, .bool f5, .string f6] 45)).drew.ne_blk (KB.out.alloc (.cells #[.int .i64 f0, .int .i64 f1, .int .i64 f2, .bool f3, .bool f4, .bool f5, .string f6] 45)).drew (by decide))); have U6 := Lib.hid ((U2.out.alloc (.cells #[.int .i64 f0, .int .i64 f1, .int .i64 f2, .bool f3, .bool f4, .bool f5, .string f6] 45)).drew.grown g6 (fun k hk => by obtain ⟨a, ha, hab⟩ := r6 k hk; have := (P5.out.blk a ha).1; omega)); have Q6 := Lib.hid (own_held (P3.out.alloc (.cells #[.int .i64 f0, .int .i64 f1, .int .i64 f2, .bool f3, .bool f4, .bool f5, .string f6] 45)).drew (P5.out.alloc (.cells #[.int .i64 f0, .int .i64 f1, .int .i64 f2, .bool f3, .bool f4, .bool f5, .string f6] 45)).drew (by decide) g6 r6); clear o6 g6 r6 d6; have q0 := (U6.out.b.cell (p := ⟨b, off + k * 7, none⟩) hb0).trans b_0; have q1 := (U6.out.b.cell (p := ⟨b, off + k * 7 + 1, none⟩) hb0).trans b_1; have q2 := (U6.out.b.cell (p := ⟨b, off + k * 7 + 2, none⟩) hb0).trans b_2; have q3 := (U6.out.b.cell (p := ⟨b, off + k * 7 + 3, none⟩) hb0).trans b_3; have q4 := (U6.out.b.cell (p := ⟨b, off + k * 7 + 4, none⟩) hb0).trans b_4; have q5 := (U6.out.b.cell (p := ⟨b, off + k * 7 + 5, none⟩) hb0).trans b_5; have q6 := (U6.out.b.cell (p := ⟨b, off + k * 7 + 6, none⟩) hb0).trans b_6; have q7 := U6.out.x.get 1 rfl; have c6' := K6.out.get 1 rfl; have cf6 := K6.out.frozen 1; have hk6 := K6.out.lt; have r0 := far_cell q0 (p := ⟨w3.heap.size + 1, 1, none⟩) (by show _ ≠ _ + _; omega) (.slice A6 (m5 + 1) c6); have r1 := far_cell q1 (p := ⟨w3.heap.size + 1, 1, none⟩) (by show _ ≠ _ + _; omega) (.slice A6 (m5 + 1) c6); have r2 := far_cell q2 (p := ⟨w3.heap.size + 1, 1, none⟩) (by show _ ≠ _ + _; omega) (.slice A6 (m5 + 1) c6); have r3 := far_cell q3 (p := ⟨w3.heap.size + 1, 1, none⟩) (by show _ ≠ _ + _; omega) (.slice A6 (m5 + 1) c6); have r4 := far_cell q4 (p := ⟨w3.heap.size + 1, 1, none⟩) (by show _ ≠ _ + _; omega) (.slice A6 (m5 + 1) c6); have r5 := far_cell q5 (p := ⟨w3.heap.size + 1, 1, none⟩) (by show _ ≠ _ + _; omega) (.slice A6 (m5 + 1) c6); have r6 := far_cell q6 (p := ⟨w3.heap.size + 1, 1, none⟩) (by show _ ≠ _ + _; omega) (.slice A6 (m5 + 1) c6); have r7 := far_cell q7 (p := ⟨w3.heap.size + 1, 1, none⟩) (by show _ ≠ _ + _; omega) (.slice A6 (m5 + 1) c6))
              refine hK.out _ _ (by first | exact ⟨e0, e1, e2, e3, e4, e5, e6, x1⟩ | exact ⟨q0, q1, q2, q3, q4, q5, q6, q7⟩ | exact ⟨r0, r1, r2, r3, r4, r5, r6, r7⟩ | go_keep) (fun hHeld => ?_)
              clear hK K
              try simp only [Act.put, List.setIfInBounds_toArray, List.set_cons_zero, List.set_cons_succ]
              refine wpAnyH_take (i := 9) (oi := ⟨some 70, _, _, _, _, _⟩) (v := ?_) rfl (by kernel_rfl) (by kernel_rfl) (by kernel_rfl) (fun _ _ _ h => h) (Or.inl ⟨by kernel_rfl, ?y27⟩) (by assumption) ?_
              case y27 => (intro w hSw; (try dsimp only at hSw); first | (go_simp; done) | (go_simp; with_reducible rfl))
              simp only [Act.put, List.setIfInBounds_toArray, List.set_cons_zero, List.set_cons_succ]
              refine wpAnyH_ready (rs := [10]) (by kernel_rfl) (by simp) ?_
              refine AllReadyH.cons (o := ⟨none, _, _, _, _, _⟩) rfl (fun K hK => ?_) AllReadyH.nil
              go_simp
              refine hK.out _ _ (by first | exact ⟨e0, e1, e2, e3, e4, e5, e6, x1⟩ | exact ⟨q0, q1, q2, q3, q4, q5, q6, q7⟩ | exact ⟨r0, r1, r2, r3, r4, r5, r6, r7⟩ | go_keep) (fun hHeld => ?_)
              clear hK K
              try simp only [Act.put, List.setIfInBounds_toArray, List.set_cons_zero, List.set_cons_succ]
              refine wpAnyH_done (by kernel_rfl) ?_ _
              go_wp2
              go_roundw
              case rel => exact ⟨k + 1, A6, m5 + 1, c6, l ++ [⟨f0, f1, f2, f3, f4, f5, f6⟩], by omega, by go_num, Lib.hid (by rw [List.length_append, hl5.out]; rfl), by omega, HE, by have h := K6.out.set_ 1 (.slice A6 (m5 + 1) c6); exact h, own_far Q6.out K6.out (by decide) 1 _, own_far O6.out K6.out (by decide) 1 _, U6.out.far (by show _ ≤ _ + _; omega) _⟩
              case measure => simp [intOf]; omega
            exact AllReadyH.nil
        · have HE := Lib.hid (by have h := hE.out; rw [rest_end (by rw [HM.out]; omega), List.append_nil] at h; exact h : l = RS)
          clear hE
          have hyl2 := U2.out.y.lt
          cases g5 with
          | true =>
            have y5 := U2.out.y.get 5 rfl
            go_wp2
            clear y5
            have k0 := KB.out.get 0 rfl
            have k1 := KB.out.get 1 rfl
            have hkl2 := KB.out.lt
            have n0 := U2.out.m.get 0 rfl
            have n1 := U2.out.m.get 1 rfl
            have n2 := U2.out.m.get 2 rfl
            have n3 := U2.out.m.get 3 rfl
            have hml := U2.out.m.lt
            have za0 := U2.out.z.get 0 rfl
            have za1 := U2.out.z.get 1 rfl
            have zf0 := U2.out.z.frozen 0
            have zf1 := U2.out.z.frozen 1
            have hzl := U2.out.z.lt
            have va0 := U2.out.v.get 0 rfl
            have va1 := U2.out.v.get 1 rfl
            have va2 := U2.out.v.get 2 rfl
            have va3 := U2.out.v.get 3 rfl
            have vf0 := U2.out.v.frozen 0
            have vf1 := U2.out.v.frozen 1
            have vf2 := U2.out.v.frozen 2
            have vf3 := U2.out.v.frozen 3
            have hvl := U2.out.v.lt
            have a_k0 := far_cell (far_cell (w := wr) k0 (p := ⟨w.heap.size + 1, 0, none⟩) (by first | (show _ + _ ≠ _ + _; omega) | (simp; omega)) (.slice A3 n c3)) (p := ⟨w.heap.size + 1, 1, none⟩) (by first | (show _ + _ ≠ _ + _; omega) | (simp; omega)) (.slice A5 m5 c5)
            have t_k0 := drew_cell (far_cell (far_cell (far_cell (far_cell a_k0 (p := ⟨w.heap.size + 1 + 1, 0, none⟩) (by first | (show _ + _ ≠ _ + _; omega) | (simp; omega)) (.int .i64 (s : Int))) (p := ⟨w.heap.size + 1 + 1, 1, none⟩) (by first | (show _ + _ ≠ _ + _; omega) | (simp; omega)) (.int .i64 g2)) (p := ⟨w.heap.size + 1 + 1, 2, none⟩) (by first | (show _ + _ ≠ _ + _; omega) | (simp; omega)) (.bool true)) (p := ⟨w.heap.size + 1 + 1, 3, none⟩) (by first | (show _ + _ ≠ _ + _; omega) | (simp; omega)) (.string T))
            have s_k0 := drew_cell a_k0
            clear a_k0
            have a_k1 := far_cell (far_cell (w := wr) k1 (p := ⟨w.heap.size + 1, 0, none⟩) (by first | (show _ + _ ≠ _ + _; omega) | (simp; omega)) (.slice A3 n c3)) (p := ⟨w.heap.size + 1, 1, none⟩) (by first | (show _ + _ ≠ _ + _; omega) | (simp; omega)) (.slice A5 m5 c5)
            have t_k1 := drew_cell (far_cell (far_cell (far_cell (far_cell a_k1 (p := ⟨w.heap.size + 1 + 1, 0, none⟩) (by first | (show _ + _ ≠ _ + _; omega) | (simp; omega)) (.int .i64 (s : Int))) (p := ⟨w.heap.size + 1 + 1, 1, none⟩) (by first | (show _ + _ ≠ _ + _; omega) | (simp; omega)) (.int .i64 g2)) (p := ⟨w.heap.size + 1 + 1, 2, none⟩) (by first | (show _ + _ ≠ _ + _; omega) | (simp; omega)) (.bool true)) (p := ⟨w.heap.size + 1 + 1, 3, none⟩) (by first | (show _ + _ ≠ _ + _; omega) | (simp; omega)) (.string T))
            have s_k1 := drew_cell a_k1
            clear a_k1
            have a_n0 := far_cell (far_cell (w := wr) n0 (p := ⟨w.heap.size + 1, 0, none⟩) (by first | (show _ + _ ≠ _ + _; omega) | (simp; omega)) (.slice A3 n c3)) (p := ⟨w.heap.size + 1, 1, none⟩) (by first | (show _ + _ ≠ _ + _; omega) | (simp; omega)) (.slice A5 m5 c5)
            have t_n0 := drew_cell (far_cell (far_cell (far_cell (far_cell a_n0 (p := ⟨w.heap.size + 1 + 1, 0, none⟩) (by first | (show _ + _ ≠ _ + _; omega) | (simp; omega)) (.int .i64 (s : Int))) (p := ⟨w.heap.size + 1 + 1, 1, none⟩) (by first | (show _ + _ ≠ _ + _; omega) | (simp; omega)) (.int .i64 g2)) (p := ⟨w.heap.size + 1 + 1, 2, none⟩) (by first | (show _ + _ ≠ _ + _; omega) | (simp; omega)) (.bool true)) (p := ⟨w.heap.size + 1 + 1, 3, none⟩) (by first | (show _ + _ ≠ _ + _; omega) | (simp; omega)) (.string T))
            have s_n0 := drew_cell a_n0
            clear a_n0
            have a_n1 := far_cell (far_cell (w := wr) n1 (p := ⟨w.heap.size + 1, 0, none⟩) (by first | (show _ + _ ≠ _ + _; omega) | (simp; omega)) (.slice A3 n c3)) (p := ⟨w.heap.size + 1, 1, none⟩) (by first | (show _ + _ ≠ _ + _; omega) | (simp; omega)) (.slice A5 m5 c5)
            have t_n1 := drew_cell (far_cell (far_cell (far_cell (far_cell a_n1 (p := ⟨w.heap.size + 1 + 1, 0, none⟩) (by first | (show _ + _ ≠ _ + _; omega) | (simp; omega)) (.int .i64 (s : Int))) (p := ⟨w.heap.size + 1 + 1, 1, none⟩) (by first | (show _ + _ ≠ _ + _; omega) | (simp; omega)) (.int .i64 g2)) (p := ⟨w.heap.size + 1 + 1, 2, none⟩) (by first | (show _ + _ ≠ _ + _; omega) | (simp; omega)) (.bool true)) (p := ⟨w.heap.size + 1 + 1, 3, none⟩) (by first | (show _ + _ ≠ _ + _; omega) | (simp; omega)) (.string T))
            have s_n1 := drew_cell a_n1
            clear a_n1
            have a_n2 := far_cell (far_cell (w := wr) n2 (p := ⟨w.heap.size + 1, 0, none⟩) (by first | (show _ + _ ≠ _ + _; omega) | (simp; omega)) (.slice A3 n c3)) (p := ⟨w.heap.size + 1, 1, none⟩) (by first | (show _ + _ ≠ _ + _; omega) | (simp; omega)) (.slice A5 m5 c5)
            have t_n2 := drew_cell (far_cell (far_cell (far_cell (far_cell a_n2 (p := ⟨w.heap.size + 1 + 1, 0, none⟩) (by first | (show _ + _ ≠ _ + _; omega) | (simp; omega)) (.int .i64 (s : Int))) (p := ⟨w.heap.size + 1 + 1, 1, none⟩) (by first | (show _ + _ ≠ _ + _; omega) | (simp; omega)) (.int .i64 g2)) (p := ⟨w.heap.size + 1 + 1, 2, none⟩) (by first | (show _ + _ ≠ _ + _; omega) | (simp; omega)) (.bool true)) (p := ⟨w.heap.size + 1 + 1, 3, none⟩) (by first | (show _ + _ ≠ _ + _; omega) | (simp; omega)) (.string T))
            have s_n2 := drew_cell a_n2
            clear a_n2
            have a_n3 := far_cell (far_cell (w := wr) n3 (p := ⟨w.heap.size + 1, 0, none⟩) (by first | (show _ + _ ≠ _ + _; omega) | (simp; omega)) (.slice A3 n c3)) (p := ⟨w.heap.size + 1, 1, none⟩) (by first | (show _ + _ ≠ _ + _; omega) | (simp; omega)) (.slice A5 m5 c5)
            have t_n3 := drew_cell (far_cell (far_cell (far_cell (far_cell a_n3 (p := ⟨w.heap.size + 1 + 1, 0, none⟩) (by first | (show _ + _ ≠ _ + _; omega) | (simp; omega)) (.int .i64 (s : Int))) (p := ⟨w.heap.size + 1 + 1, 1, none⟩) (by first | (show _ + _ ≠ _ + _; omega) | (simp; omega)) (.int .i64 g2)) (p := ⟨w.heap.size + 1 + 1, 2, none⟩) (by first | (show _ + _ ≠ _ + _; omega) | (simp; omega)) (.bool true)) (p := ⟨w.heap.size + 1 + 1, 3, none⟩) (by first | (show _ + _ ≠ _ + _; omega) | (simp; omega)) (.string T))
            have s_n3 := drew_cell a_n3
            clear a_n3
            refine wp_region_held_drew (S := fun w' => w'.cell? ⟨w3.heap.size + 1, 0, none⟩ = some (.slice A3 n c3) ∧ w'.cell? ⟨w3.heap.size + 1, 1, none⟩ = some (.slice A5 m5 c5) ∧ w'.cell? ⟨w.heap.size + 4, 0, none⟩ = some (.int .i64 (s : Int)) ∧ w'.cell? ⟨w.heap.size + 4, 1, none⟩ = some (.int .i64 g2) ∧ w'.cell? ⟨w.heap.size + 4, 2, none⟩ = some (.bool true) ∧ w'.cell? ⟨w.heap.size + 4, 3, none⟩ = some (.string T)) (by kernel_rfl) (by first | exact ⟨k0, k1, n0, n1, n2, n3⟩) (fun hHeld => ?_)
            refine wpAnyH_take (i := 0) (oi := ⟨some 82, _, _, _, _, _⟩) (v := ?_) rfl (by kernel_rfl) (by kernel_rfl) (by kernel_rfl) (fun _ _ _ h => h) (Or.inl ⟨by kernel_rfl, ?y28⟩) (by assumption) ?_
            case y28 => (intro w hSw; (try dsimp only at hSw); first | (go_simp; done) | (go_simp; with_reducible rfl))
            simp only [Act.put, List.setIfInBounds_toArray, List.set_cons_zero, List.set_cons_succ]
            refine wpAnyH_take (i := 1) (oi := ⟨some 83, _, _, _, _, _⟩) (v := ?_) rfl (by kernel_rfl) (by kernel_rfl) (by kernel_rfl) (fun _ _ _ h => h) (Or.inl ⟨by kernel_rfl, ?y29⟩) (by assumption) ?_
            case y29 => (intro w hSw; (try dsimp only at hSw); first | (go_simp; done) | (go_simp; with_reducible rfl))
            simp only [Act.put, List.setIfInBounds_toArray, List.set_cons_zero, List.set_cons_succ]
            refine wpAnyH_ready (rs := [2]) (by kernel_rfl) (by simp) ?_
            refine AllReadyH.cons (o := ⟨none, _, _, _, _, _⟩) rfl (fun K hK => ?_) AllReadyH.nil
            go_simp
            refine hK.out _ _ (by first | exact ⟨s_k0, s_k1, s_n0, s_n1, s_n2, s_n3⟩) (fun hHeld => ?_)
            clear hK K
            try simp only [Act.put, List.setIfInBounds_toArray, List.set_cons_zero, List.set_cons_succ]
            refine wpAnyH_ready (rs := [3]) (by kernel_rfl) (by simp) ?_
            refine AllReadyH.cons (o := ⟨none, _, _, _, _, _⟩) rfl (fun K hK => ?_) AllReadyH.nil
            go_simp
            refine hK.out _ _ (by first | exact ⟨t_k0, t_k1, t_n0, t_n1, t_n2, t_n3⟩) (fun hHeld => ?_)
            clear hK K
            try simp only [Act.put, List.setIfInBounds_toArray, List.set_cons_zero, List.set_cons_succ]
            refine wpAnyH_done (by kernel_rfl) ?_ _
            go_wp2
            refine bodyPost_ret (v := .tuple #[.agg #[.slice A3 n c3, .slice A5 m5 c5], .agg #[.int .i64 (s : Int), .int .i64 g2, .bool true, .string T]]) (by simp [results, Try.results40, go_sem, za0, za1, va0, va1, va2, va3, zf0, zf1, vf0, vf1, vf2, vf3]) rfl ?_
            refine ⟨A3, n, c3, A5, m5, c5, by rw [HTX.out], by rw [HRS.out, ← HE.out]; exact hl5.out, by rw [nextA_len]; exact HN.out, ?_, ?_, ?_⟩
            · have h := P3.out.lower (b := w.heap.size) (by omega)
              rw [(rfl : nextA nx ⟨g0, (s : Int), g2, g3, g4, true, g6⟩ = nx)]
              exact Own.drew ((((((h.set_ne (fun a ha => by have := (P3.out.blk a ha).1; show a.block ≠ _ + _; omega) _).set_ne (fun a ha => by have := (P3.out.blk a ha).1; show a.block ≠ _ + _; omega) _).set_ne (fun a ha => by have := (P3.out.blk a ha).1; show a.block ≠ _ + _; omega) _).set_ne (fun a ha => by have := (P3.out.blk a ha).1; show a.block ≠ _ + _; omega) _).set_ne (fun a ha => by have := (P3.out.blk a ha).1; show a.block ≠ _ + _; omega) _).set_ne (fun a ha => by have := (P3.out.blk a ha).1; show a.block ≠ _ + _; omega) _)
            · have h := P5.out.lower (b := w.heap.size) (by omega)
              rw [HRS.out, ← HE.out]
              exact Own.drew ((((((h.set_ne (fun a ha => by have := (P5.out.blk a ha).1; show a.block ≠ _ + _; omega) _).set_ne (fun a ha => by have := (P5.out.blk a ha).1; show a.block ≠ _ + _; omega) _).set_ne (fun a ha => by have := (P5.out.blk a ha).1; show a.block ≠ _ + _; omega) _).set_ne (fun a ha => by have := (P5.out.blk a ha).1; show a.block ≠ _ + _; omega) _).set_ne (fun a ha => by have := (P5.out.blk a ha).1; show a.block ≠ _ + _; omega) _).set_ne (fun a ha => by have := (P5.out.blk a ha).1; show a.block ≠ _ + _; omega) _)
            · exact Below.drew ((((((U2.out.b.setCell (by show _ ≤ _ + _; omega) _).setCell (by show _ ≤ _ + _; omega) _).setCell (by show _ ≤ _ + _; omega) _).setCell (by show _ ≤ _ + _; omega) _).setCell (by show _ ≤ _ + _; omega) _).setCell (by show _ ≤ _ + _; omega) _)
          | false =>
            have y5 := U2.out.y.get 5 rfl
            go_wp2
            clear y5
            obtain ⟨a3, rfl⟩ := P3.out.some_of (by omega : n ≠ 0)
            obtain ⟨zx, hzx⟩ := fget_of_lt (xs := nx) (k := s) (by rw [HN.out]; omega)
            have r0 := P3.out.cell s (ints_at_ hzx)
            have rf := P3.out.froz s
            have hb3 := P3.out.blk _ rfl
            have hrl : a3 < wr.heap.size := hb3.2.1
            have hr5 : w.heap.size + 5 ≤ a3 := hb3.1
            have hk3 : w3.heap.size + 1 ≠ a3 := fun h => P3.out.ne_blk KB.out (by decide) _ rfl h.symm
            clear hzx hb3
            have k0 := KB.out.get 0 rfl
            have y1 := U2.out.y.get 1 rfl
            have y2 := U2.out.y.get 2 rfl
            have hsi : (0 : Int) ≤ (s : Int) := by omega
            have hsn : (s : Int) < (n : Int) := by omega
            have t0 := drewfar k0 (p := ⟨a3, s, none⟩) hk3 (.int .i64 (sadd g2 1))
            have t1 := drewfar y1 (p := ⟨a3, s, none⟩) (by show _ + _ ≠ a3; omega) (.int .i64 (sadd g2 1))
            have t2 := drewfar y2 (p := ⟨a3, s, none⟩) (by show _ + _ ≠ a3; omega) (.int .i64 (sadd g2 1))
            refine wp_region_held_drew (S := fun w' => w'.cell? ⟨w3.heap.size + 1, 0, none⟩ = some (.slice (some ⟨a3, 0, none⟩) n c3) ∧ w'.cell? ⟨w.heap.size + 3, 1, none⟩ = some (.int .i64 (s : Int)) ∧ w'.cell? ⟨w.heap.size + 3, 2, none⟩ = some (.int .i64 g2)) (by kernel_rfl) (by first | exact ⟨k0, y1, y2⟩) (fun hHeld => ?_)
            refine wpAnyH_take (i := 0) (oi := ⟨some 74, _, _, _, _, _⟩) (v := ?_) rfl (by kernel_rfl) (by kernel_rfl) (by kernel_rfl) (fun _ _ _ h => h) (Or.inl ⟨by kernel_rfl, ?y30⟩) (by assumption) ?_
            case y30 => (intro w hSw; (try dsimp only at hSw); first | (go_simp; done) | (go_simp; with_reducible rfl))
            simp only [Act.put, List.setIfInBounds_toArray, List.set_cons_zero, List.set_cons_succ]
            refine wpAnyH_take (i := 1) (oi := ⟨some 75, _, _, _, _, _⟩) (v := ?_) rfl (by kernel_rfl) (by kernel_rfl) (by kernel_rfl) (fun _ _ _ h => h) (Or.inl ⟨by kernel_rfl, ?y31⟩) (by assumption) ?_
            case y31 => (intro w hSw; (try dsimp only at hSw); first | (go_simp; done) | (go_simp; with_reducible rfl))
            simp only [Act.put, List.setIfInBounds_toArray, List.set_cons_zero, List.set_cons_succ]
            refine wpAnyH_take (i := 2) (oi := ⟨some 76, _, _, _, _, _⟩) (v := ?_) rfl (by kernel_rfl) (by kernel_rfl) (by kernel_rfl) (fun _ _ _ h => h) (Or.inl ⟨by kernel_rfl, ?y32⟩) (by assumption) ?_
            case y32 => (intro w hSw; (try dsimp only at hSw); first | (go_simp; done) | (go_simp; with_reducible rfl))
            simp only [Act.put, List.setIfInBounds_toArray, List.set_cons_zero, List.set_cons_succ]
            refine wpAnyH_take (i := 3) (oi := ⟨some 77, _, _, _, _, _⟩) (v := ?_) rfl (by kernel_rfl) (by kernel_rfl) (by kernel_rfl) (fun _ _ _ h => h) (Or.inl ⟨by kernel_rfl, ?y33⟩) (by assumption) ?_
            case y33 => (intro w hSw; (try dsimp only at hSw); first | (go_simp; done) | (go_simp; with_reducible rfl))
            simp only [Act.put, List.setIfInBounds_toArray, List.set_cons_zero, List.set_cons_succ]
            refine wpAnyH_take (i := 4) (oi := ⟨some 78, _, _, _, _, _⟩) (v := ?_) rfl (by kernel_rfl) (by kernel_rfl) (by kernel_rfl) (fun _ _ _ h => h) (Or.inl ⟨by kernel_rfl, ?y34⟩) (by assumption) ?_
            case y34 => (intro w hSw; (try dsimp only at hSw); first | (go_simp; done) | (go_simp; with_reducible rfl))
            simp only [Act.put, List.setIfInBounds_toArray, List.set_cons_zero, List.set_cons_succ]
            refine wpAnyH_take (i := 5) (oi := ⟨some 79, _, _, _, _, _⟩) (v := ?_) rfl (by kernel_rfl) (by kernel_rfl) (by kernel_rfl) (fun _ _ _ h => h) (Or.inl ⟨by kernel_rfl, ?y35⟩) (by assumption) ?_
            case y35 => (intro w hSw; (try dsimp only at hSw); first | (go_simp; done) | (go_simp; with_reducible rfl))
            simp only [Act.put, List.setIfInBounds_toArray, List.set_cons_zero, List.set_cons_succ]
            refine wpAnyH_ready (rs := [6]) (by kernel_rfl) (by simp) ?_
            refine AllReadyH.cons (o := ⟨some 80, _, _, _, _, _⟩) rfl (fun K hK => ?_) AllReadyH.nil
            go_simp
            (go_at_call 59; (with_reducible refine (l3add_any _ _ hok _).mono ?_); rintro e w5 ⟨rfl, rfl⟩)
            first | go_wp2_with fail | skip
            refine hK.out _ _ (by first | exact ⟨k0, y1, y2⟩) (fun hHeld => ?_)
            clear hK K
            try simp only [Act.put, List.setIfInBounds_toArray, List.set_cons_zero, List.set_cons_succ]
            refine wpAnyH_take (i := 7) (oi := ⟨some 81, _, _, _, _, _⟩) (v := ?_) rfl (by kernel_rfl) (by kernel_rfl) (by kernel_rfl) (fun _ _ _ h => h) (Or.inl ⟨by kernel_rfl, ?y36⟩) (by assumption) ?_
            case y36 => (intro w hSw; (try dsimp only at hSw); first | (go_simp; done) | (go_simp; with_reducible rfl))
            simp only [Act.put, List.setIfInBounds_toArray, List.set_cons_zero, List.set_cons_succ]
            refine wpAnyH_ready (rs := [8]) (by kernel_rfl) (by simp) ?_
            refine AllReadyH.cons (o := ⟨none, _, _, _, _, _⟩) rfl (fun K hK => ?_) AllReadyH.nil
            go_simp
            refine hK.out _ _ (by first | exact ⟨t0, t1, t2⟩) (fun hHeld => ?_)
            clear hK K
            try simp only [Act.put, List.setIfInBounds_toArray, List.set_cons_zero, List.set_cons_succ]
            refine wpAnyH_done (by kernel_rfl) ?_ _
            have P3' := Lib.hid (by have h := P3.out.put s (.int .i64 (sadd g2 1)); rw [ints_set] at h; exact h : Own (wr.setCell ⟨a3, s, none⟩ (.int .i64 (sadd g2 1))) (w.heap.size + 5) 3 1 (some ⟨a3, 0, none⟩) n c3 (ints (nx.set s (sadd g2 1))))
            have P5' := Lib.hid (P5.out.set_ne (p := ⟨a3, s, none⟩) (fun a ha => own_apart P5.out P3.out (by decide) a ⟨a3, 0, none⟩ ha rfl) (.int .i64 (sadd g2 1)))
            have KB' := Lib.hid (KB.out.far (p := ⟨a3, s, none⟩) hk3 (.int .i64 (sadd g2 1)))
            have U' := Lib.hid (U2.out.far (p := ⟨a3, s, none⟩) hr5 (.int .i64 (sadd g2 1)))
            clear k0 y1 y2 t0 t1 t2 r0 rf
            go_wp2
            obtain ⟨wf, hwf⟩ : ∃ x, x = (wr.setCell ⟨a3, s, none⟩ (.int .i64 (sadd g2 1))).drew := ⟨_, rfl⟩
            have P3' := Lib.hid P3'.out.drew
            have P5' := Lib.hid P5'.out.drew
            have KB' := Lib.hid KB'.out.drew
            have U' := Lib.hid U'.out.drew
            rw [← hwf] at P3' P5' KB' U'
            rw [← hwf]
            clear hwf
            have k0 := KB'.out.get 0 rfl
            have k1 := KB'.out.get 1 rfl
            have hkl2 := KB'.out.lt
            have n0 := U'.out.m.get 0 rfl
            have n1 := U'.out.m.get 1 rfl
            have n2 := U'.out.m.get 2 rfl
            have n3 := U'.out.m.get 3 rfl
            have hml := U'.out.m.lt
            have za0 := U'.out.z.get 0 rfl
            have za1 := U'.out.z.get 1 rfl
            have zf0 := U'.out.z.frozen 0
            have zf1 := U'.out.z.frozen 1
            have hzl := U'.out.z.lt
            have va0 := U'.out.v.get 0 rfl
            have va1 := U'.out.v.get 1 rfl
            have va2 := U'.out.v.get 2 rfl
            have va3 := U'.out.v.get 3 rfl
            have vf0 := U'.out.v.frozen 0
            have vf1 := U'.out.v.frozen 1
            have vf2 := U'.out.v.frozen 2
            have vf3 := U'.out.v.frozen 3
            have hvl := U'.out.v.lt
            have a_k0 := far_cell (far_cell (w := wf) k0 (p := ⟨w.heap.size + 1, 0, none⟩) (by first | (show _ + _ ≠ _ + _; omega) | (simp; omega)) (.slice (some ⟨a3, 0, none⟩) n c3)) (p := ⟨w.heap.size + 1, 1, none⟩) (by first | (show _ + _ ≠ _ + _; omega) | (simp; omega)) (.slice A5 m5 c5)
            have t_k0 := drew_cell (far_cell (far_cell (far_cell (far_cell a_k0 (p := ⟨w.heap.size + 1 + 1, 0, none⟩) (by first | (show _ + _ ≠ _ + _; omega) | (simp; omega)) (.int .i64 (s : Int))) (p := ⟨w.heap.size + 1 + 1, 1, none⟩) (by first | (show _ + _ ≠ _ + _; omega) | (simp; omega)) (.int .i64 g2)) (p := ⟨w.heap.size + 1 + 1, 2, none⟩) (by first | (show _ + _ ≠ _ + _; omega) | (simp; omega)) (.bool false)) (p := ⟨w.heap.size + 1 + 1, 3, none⟩) (by first | (show _ + _ ≠ _ + _; omega) | (simp; omega)) (.string T))
            have s_k0 := drew_cell a_k0
            clear a_k0
            have a_k1 := far_cell (far_cell (w := wf) k1 (p := ⟨w.heap.size + 1, 0, none⟩) (by first | (show _ + _ ≠ _ + _; omega) | (simp; omega)) (.slice (some ⟨a3, 0, none⟩) n c3)) (p := ⟨w.heap.size + 1, 1, none⟩) (by first | (show _ + _ ≠ _ + _; omega) | (simp; omega)) (.slice A5 m5 c5)
            have t_k1 := drew_cell (far_cell (far_cell (far_cell (far_cell a_k1 (p := ⟨w.heap.size + 1 + 1, 0, none⟩) (by first | (show _ + _ ≠ _ + _; omega) | (simp; omega)) (.int .i64 (s : Int))) (p := ⟨w.heap.size + 1 + 1, 1, none⟩) (by first | (show _ + _ ≠ _ + _; omega) | (simp; omega)) (.int .i64 g2)) (p := ⟨w.heap.size + 1 + 1, 2, none⟩) (by first | (show _ + _ ≠ _ + _; omega) | (simp; omega)) (.bool false)) (p := ⟨w.heap.size + 1 + 1, 3, none⟩) (by first | (show _ + _ ≠ _ + _; omega) | (simp; omega)) (.string T))
            have s_k1 := drew_cell a_k1
            clear a_k1
            have a_n0 := far_cell (far_cell (w := wf) n0 (p := ⟨w.heap.size + 1, 0, none⟩) (by first | (show _ + _ ≠ _ + _; omega) | (simp; omega)) (.slice (some ⟨a3, 0, none⟩) n c3)) (p := ⟨w.heap.size + 1, 1, none⟩) (by first | (show _ + _ ≠ _ + _; omega) | (simp; omega)) (.slice A5 m5 c5)
            have t_n0 := drew_cell (far_cell (far_cell (far_cell (far_cell a_n0 (p := ⟨w.heap.size + 1 + 1, 0, none⟩) (by first | (show _ + _ ≠ _ + _; omega) | (simp; omega)) (.int .i64 (s : Int))) (p := ⟨w.heap.size + 1 + 1, 1, none⟩) (by first | (show _ + _ ≠ _ + _; omega) | (simp; omega)) (.int .i64 g2)) (p := ⟨w.heap.size + 1 + 1, 2, none⟩) (by first | (show _ + _ ≠ _ + _; omega) | (simp; omega)) (.bool false)) (p := ⟨w.heap.size + 1 + 1, 3, none⟩) (by first | (show _ + _ ≠ _ + _; omega) | (simp; omega)) (.string T))
            have s_n0 := drew_cell a_n0
            clear a_n0
            have a_n1 := far_cell (far_cell (w := wf) n1 (p := ⟨w.heap.size + 1, 0, none⟩) (by first | (show _ + _ ≠ _ + _; omega) | (simp; omega)) (.slice (some ⟨a3, 0, none⟩) n c3)) (p := ⟨w.heap.size + 1, 1, none⟩) (by first | (show _ + _ ≠ _ + _; omega) | (simp; omega)) (.slice A5 m5 c5)
            have t_n1 := drew_cell (far_cell (far_cell (far_cell (far_cell a_n1 (p := ⟨w.heap.size + 1 + 1, 0, none⟩) (by first | (show _ + _ ≠ _ + _; omega) | (simp; omega)) (.int .i64 (s : Int))) (p := ⟨w.heap.size + 1 + 1, 1, none⟩) (by first | (show _ + _ ≠ _ + _; omega) | (simp; omega)) (.int .i64 g2)) (p := ⟨w.heap.size + 1 + 1, 2, none⟩) (by first | (show _ + _ ≠ _ + _; omega) | (simp; omega)) (.bool false)) (p := ⟨w.heap.size + 1 + 1, 3, none⟩) (by first | (show _ + _ ≠ _ + _; omega) | (simp; omega)) (.string T))
            have s_n1 := drew_cell a_n1
            clear a_n1
            have a_n2 := far_cell (far_cell (w := wf) n2 (p := ⟨w.heap.size + 1, 0, none⟩) (by first | (show _ + _ ≠ _ + _; omega) | (simp; omega)) (.slice (some ⟨a3, 0, none⟩) n c3)) (p := ⟨w.heap.size + 1, 1, none⟩) (by first | (show _ + _ ≠ _ + _; omega) | (simp; omega)) (.slice A5 m5 c5)
            have t_n2 := drew_cell (far_cell (far_cell (far_cell (far_cell a_n2 (p := ⟨w.heap.size + 1 + 1, 0, none⟩) (by first | (show _ + _ ≠ _ + _; omega) | (simp; omega)) (.int .i64 (s : Int))) (p := ⟨w.heap.size + 1 + 1, 1, none⟩) (by first | (show _ + _ ≠ _ + _; omega) | (simp; omega)) (.int .i64 g2)) (p := ⟨w.heap.size + 1 + 1, 2, none⟩) (by first | (show _ + _ ≠ _ + _; omega) | (simp; omega)) (.bool false)) (p := ⟨w.heap.size + 1 + 1, 3, none⟩) (by first | (show _ + _ ≠ _ + _; omega) | (simp; omega)) (.string T))
            have s_n2 := drew_cell a_n2
            clear a_n2
            have a_n3 := far_cell (far_cell (w := wf) n3 (p := ⟨w.heap.size + 1, 0, none⟩) (by first | (show _ + _ ≠ _ + _; omega) | (simp; omega)) (.slice (some ⟨a3, 0, none⟩) n c3)) (p := ⟨w.heap.size + 1, 1, none⟩) (by first | (show _ + _ ≠ _ + _; omega) | (simp; omega)) (.slice A5 m5 c5)
            have t_n3 := drew_cell (far_cell (far_cell (far_cell (far_cell a_n3 (p := ⟨w.heap.size + 1 + 1, 0, none⟩) (by first | (show _ + _ ≠ _ + _; omega) | (simp; omega)) (.int .i64 (s : Int))) (p := ⟨w.heap.size + 1 + 1, 1, none⟩) (by first | (show _ + _ ≠ _ + _; omega) | (simp; omega)) (.int .i64 g2)) (p := ⟨w.heap.size + 1 + 1, 2, none⟩) (by first | (show _ + _ ≠ _ + _; omega) | (simp; omega)) (.bool false)) (p := ⟨w.heap.size + 1 + 1, 3, none⟩) (by first | (show _ + _ ≠ _ + _; omega) | (simp; omega)) (.string T))
            have s_n3 := drew_cell a_n3
            clear a_n3
            refine wp_region_held_drew (S := fun w' => w'.cell? ⟨w3.heap.size + 1, 0, none⟩ = some (.slice (some ⟨a3, 0, none⟩) n c3) ∧ w'.cell? ⟨w3.heap.size + 1, 1, none⟩ = some (.slice A5 m5 c5) ∧ w'.cell? ⟨w.heap.size + 4, 0, none⟩ = some (.int .i64 (s : Int)) ∧ w'.cell? ⟨w.heap.size + 4, 1, none⟩ = some (.int .i64 g2) ∧ w'.cell? ⟨w.heap.size + 4, 2, none⟩ = some (.bool false) ∧ w'.cell? ⟨w.heap.size + 4, 3, none⟩ = some (.string T)) (by kernel_rfl) (by first | exact ⟨k0, k1, n0, n1, n2, n3⟩) (fun hHeld => ?_)
            refine wpAnyH_take (i := 0) (oi := ⟨some 82, _, _, _, _, _⟩) (v := ?_) rfl (by kernel_rfl) (by kernel_rfl) (by kernel_rfl) (fun _ _ _ h => h) (Or.inl ⟨by kernel_rfl, ?y37⟩) (by assumption) ?_
            case y37 => (intro w hSw; (try dsimp only at hSw); first | (go_simp; done) | (go_simp; with_reducible rfl))
            simp only [Act.put, List.setIfInBounds_toArray, List.set_cons_zero, List.set_cons_succ]
            refine wpAnyH_take (i := 1) (oi := ⟨some 83, _, _, _, _, _⟩) (v := ?_) rfl (by kernel_rfl) (by kernel_rfl) (by kernel_rfl) (fun _ _ _ h => h) (Or.inl ⟨by kernel_rfl, ?y38⟩) (by assumption) ?_
            case y38 => (intro w hSw; (try dsimp only at hSw); first | (go_simp; done) | (go_simp; with_reducible rfl))
            simp only [Act.put, List.setIfInBounds_toArray, List.set_cons_zero, List.set_cons_succ]
            refine wpAnyH_ready (rs := [2]) (by kernel_rfl) (by simp) ?_
            refine AllReadyH.cons (o := ⟨none, _, _, _, _, _⟩) rfl (fun K hK => ?_) AllReadyH.nil
            go_simp
            refine hK.out _ _ (by first | exact ⟨s_k0, s_k1, s_n0, s_n1, s_n2, s_n3⟩) (fun hHeld => ?_)
            clear hK K
            try simp only [Act.put, List.setIfInBounds_toArray, List.set_cons_zero, List.set_cons_succ]
            refine wpAnyH_ready (rs := [3]) (by kernel_rfl) (by simp) ?_
            refine AllReadyH.cons (o := ⟨none, _, _, _, _, _⟩) rfl (fun K hK => ?_) AllReadyH.nil
            go_simp
            refine hK.out _ _ (by first | exact ⟨t_k0, t_k1, t_n0, t_n1, t_n2, t_n3⟩) (fun hHeld => ?_)
            clear hK K
            try simp only [Act.put, List.setIfInBounds_toArray, List.set_cons_zero, List.set_cons_succ]
            refine wpAnyH_done (by kernel_rfl) ?_ _
            go_wp2
            refine bodyPost_ret (v := .tuple #[.agg #[.slice (some ⟨a3, 0, none⟩) n c3, .slice A5 m5 c5], .agg #[.int .i64 (s : Int), .int .i64 g2, .bool false, .string T]]) (by simp [results, Try.results40, go_sem, za0, za1, va0, va1, va2, va3, zf0, zf1, vf0, vf1, vf2, vf3]) rfl ?_
            refine ⟨(some ⟨a3, 0, none⟩), n, c3, A5, m5, c5, by rw [HTX.out], by rw [HRS.out, ← HE.out]; exact hl5.out, by rw [nextA_len]; exact HN.out, ?_, ?_, ?_⟩
            · have h := P3'.out.lower (b := w.heap.size) (by omega)
              rw [(rfl : nextA nx ⟨g0, (s : Int), g2, g3, g4, false, g6⟩ = nx.set s (sadd g2 1))]
              exact Own.drew ((((((h.set_ne (fun a ha => by have := (P3'.out.blk a ha).1; show a.block ≠ _ + _; omega) _).set_ne (fun a ha => by have := (P3'.out.blk a ha).1; show a.block ≠ _ + _; omega) _).set_ne (fun a ha => by have := (P3'.out.blk a ha).1; show a.block ≠ _ + _; omega) _).set_ne (fun a ha => by have := (P3'.out.blk a ha).1; show a.block ≠ _ + _; omega) _).set_ne (fun a ha => by have := (P3'.out.blk a ha).1; show a.block ≠ _ + _; omega) _).set_ne (fun a ha => by have := (P3'.out.blk a ha).1; show a.block ≠ _ + _; omega) _)
            · have h := P5'.out.lower (b := w.heap.size) (by omega)
              rw [HRS.out, ← HE.out]
              exact Own.drew ((((((h.set_ne (fun a ha => by have := (P5'.out.blk a ha).1; show a.block ≠ _ + _; omega) _).set_ne (fun a ha => by have := (P5'.out.blk a ha).1; show a.block ≠ _ + _; omega) _).set_ne (fun a ha => by have := (P5'.out.blk a ha).1; show a.block ≠ _ + _; omega) _).set_ne (fun a ha => by have := (P5'.out.blk a ha).1; show a.block ≠ _ + _; omega) _).set_ne (fun a ha => by have := (P5'.out.blk a ha).1; show a.block ≠ _ + _; omega) _).set_ne (fun a ha => by have := (P5'.out.blk a ha).1; show a.block ≠ _ + _; omega) _)
            · exact Below.drew ((((((U'.out.b.setCell (by show _ ≤ _ + _; omega) _).setCell (by show _ ≤ _ + _; omega) _).setCell (by show _ ≤ _ + _; omega) _).setCell (by show _ ≤ _ + _; omega) _).setCell (by show _ ≤ _ + _; omega) _).setCell (by show _ ≤ _ + _; omega) _)
end Go.Proofs.Ytkhaodbcnnlhaaa
