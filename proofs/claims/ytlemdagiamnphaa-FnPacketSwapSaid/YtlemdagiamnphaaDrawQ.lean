/-
  What the drawing of a packet returns. Condition: the reader can be read.
-/
import Derived.Test.YtlemdagiamnphaaDrawP
import Derived.Test.YtlemdagiamnphaaAppend
import Derived.Test.YtlemdagiamnphaaSlice
import Derived.Deep.RegionLaw
namespace Go.Proofs.Ytlemdagiamnphaa
open Go.ChangeShapes Go.WideShapes Go.ChangeAt Go.RowKit
set_option linter.unusedVariables false
set_option linter.unusedSimpArgs false

section
variable {P : Program} (w : World)
/-- A row appended to itself: the old one can still be read. -/
theorem run_dup (base : Nat) (t ty e : TypeId) (i : TypeInfo) (z : Value) (size bytes : Nat) (ht : P.underlying t = some (.slice e)) (hi : P.info? e = some i) (hz : i.zero = some z)
    (hsize : i.size = size) (hby : i.bytes = bytes) (hzs : z.cells.size = size) (hsz : 0 < size)
    (g n c : Nat) (xs : List Value) (hown : Own w base e size (some ⟨g, 0, none⟩) n c xs) (h1 : ∀ u ∈ xs, u.oneCell' = true)
    (h63 : n + n ≤ maxLen) (hbytes : (n + n) * bytes ≤ 140737488355328) (hbase : base ≤ w.heap.size) :
    ∃ A' c' row w', (Builtin.append_ #[t, t] ty #[.slice (some ⟨g, 0, none⟩) n c, .slice (some ⟨g, 0, none⟩) n c]).run P w = .ok (.slice A' (n + n) c') w' ∧ Own w' base e size A' (n + n) c' (xs ++ xs) ∧ w.grownBy w' row ∧ AtRow (some ⟨g, 0, none⟩) row ∧ Sl w' w'.heap.size (some ⟨g, 0, none⟩) xs := by
  have hr := Own.sl hown
  have hl := Own.len hown
  obtain ⟨A', c', row, w', hrun, h2, h3, h4, h5⟩ := run_app (P := P) w base t ty e i z size bytes ht hi hz hsize hby hzs hsz _ n c xs hown _ _ n c xs hr hl h1 h63 hbytes hbase
  refine ⟨A', c', row, w', hrun, h2, h3, h4, ?_⟩
  have hcells : ∀ j u, xs[j]? = some u → w.cell? ((⟨g, 0, none⟩ : Addr).add j) = some u := World.ownsRow.cells (w := w) hown (g := g) rfl
  rcases hown.2 with ⟨hv, _⟩ | ⟨g', cap, cur, hv, hbg, hg, hnc, hcm, hcs, htake⟩
  · injection hv with hA; cases hA
  · injection hv with hA _ hcc
    injection hA with hA
    injection hA with hA _
    subst hA hcc
    subst hsize hby
    by_cases hroom : n + n ≤ c
    · have hfit : n * i.size + xs.length ≤ cur.size := by rw [hl, hcs, ← Nat.add_mul]; exact Nat.mul_le_mul_right _ hroom
      have hr2 := run_append_room (P := P) w t ty e i ht hi g n c cur hg ⟨g, 0, none⟩ n c xs hl hcells h1 hroom hfit
      rw [hrun] at hr2
      injection hr2 with e1 e2
      injection e1 with e1 _ _
      subst e1
      have := h2.sl.take xs.length
      rwa [List.take_left] at this
    · have hr2 := run_append_grow (P := P) w t ty e i z ht hi hz ⟨g, 0, none⟩ n c xs hl hcells ⟨g, 0, none⟩ n c xs hl hcells (by omega) (by simp only [maxLen] at h63; omega) (growslice_fits (by omega) hbytes)
      rw [hrun] at hr2
      injection hr2 with e1 e2
      subst e2
      exact ((Own.sl hown).drew.alloc (Nat.le_refl _) _).more (by simp)
theorem wp_dup {o : Oper} {a : Act} {K : Act → World → Prop} {Q : Exit → Act → World → Prop} (s x : Operand) (t : TypeId)
    (ho : o.op = .call { callee := .builtin .append, args := #[s, x], argTypes := #[t, t] })
    (base : Nat) (e : TypeId) (i : TypeInfo) (z : Value) (size bytes : Nat) (ht : P.underlying t = some (.slice e)) (hi : P.info? e = some i) (hz : i.zero = some z)
    (hsize : i.size = size) (hby : i.bytes = bytes) (hzs : z.cells.size = size) (hsz : 0 < size)
    (g n c : Nat) (xs : List Value) (hs : a.eval s = .slice (some ⟨g, 0, none⟩) n c) (hx : a.eval x = .slice (some ⟨g, 0, none⟩) n c) (hown : Own w base e size (some ⟨g, 0, none⟩) n c xs) (h1 : ∀ u ∈ xs, u.oneCell' = true)
    (h63 : n + n ≤ maxLen) (hbytes : (n + n) * bytes ≤ 140737488355328) (hbase : base ≤ w.heap.size)
    (h : ∀ A' c' row w', Own w' base e size A' (n + n) c' (xs ++ xs) → w.grownBy w' row → AtRow (some ⟨g, 0, none⟩) row → Sl w' w'.heap.size (some ⟨g, 0, none⟩) xs → K (a.put o.dst (.slice A' (n + n) c')) w') : o.wp P a w K Q := by
  obtain ⟨A', c', row, w', hrun, h2, h3, h4, h5⟩ := run_dup (P := P) w base t o.type e i z size bytes ht hi hz hsize hby hzs hsz g n c xs hown h1 h63 hbytes hbase
  unfold Oper.wp execOp
  simp only [ho, resolve, invoke, builtin, Sem.run_bind, Sem.run_pure, Result.andThen_ok, List.map_toArray, List.map_cons, List.map_nil, hs, hx, hrun]
  exact h A' c' row w' h2 h3 h4 h5
theorem step_dup {ops : Array Oper} {o : Oper} {a : Act} {K : Act → World → Prop} {Q : Exit → Act → World → Prop} {E : Prop} (hgd : o.guard = none) (s x : Operand) (t : TypeId)
    (ho : o.op = .call { callee := .builtin .append, args := #[s, x], argTypes := #[t, t] })
    (base : Nat) (e : TypeId) (i : TypeInfo) (z : Value) (size bytes : Nat) (ht : P.underlying t = some (.slice e)) (hi : P.info? e = some i) (hz : i.zero = some z)
    (hsize : i.size = size) (hby : i.bytes = bytes) (hzs : z.cells.size = size) (hsz : 0 < size)
    (g n c : Nat) (xs : List Value) (hs : a.eval s = .slice (some ⟨g, 0, none⟩) n c) (hx : a.eval x = .slice (some ⟨g, 0, none⟩) n c) (hown : Own w base e size (some ⟨g, 0, none⟩) n c xs) (h1 : ∀ u ∈ xs, u.oneCell' = true)
    (h63 : n + n ≤ maxLen) (hbytes : (n + n) * bytes ≤ 140737488355328) (hbase : base ≤ w.heap.size)
    (h : ∀ A' c' row w', Own w' base e size A' (n + n) c' (xs ++ xs) → w.grownBy w' row → AtRow (some ⟨g, 0, none⟩) row → Sl w' w'.heap.size (some ⟨g, 0, none⟩) xs → K (a.put o.dst (.slice A' (n + n) c')) w') :
    if Region.wanted o (yielded ops a.tmps) = true then Oper.wp P o a w K Q else E := by
  have hw : Region.wanted o (yielded ops a.tmps) = true := by simp [Region.wanted, hgd]
  rw [if_pos hw]
  exact wp_dup w s x t ho base e i z size bytes ht hi hz hsize hby hzs hsz g n c xs hs hx hown h1 h63 hbytes hbase h
end
theorem own_lit {w : World} (base : Nat) (e : TypeId) (C : Array Value) (size : Nat) (xs : List Value) (hb : base ≤ w.heap.size) (hC : C.toList = xs) (hl : xs.length = 1 * size) : Own (w.alloc (.cells C e)) base e size (some ⟨w.heap.size, 0, none⟩) 1 1 xs := by
  refine ⟨hl, .inr ⟨w.heap.size, 1, C, rfl, hb, heap_alloc_new w _, Nat.le_refl _, by unfold maxLen; omega, ?_, ?_⟩⟩
  · rw [← Array.length_toList, hC, hl]
  · rw [hC]
    exact List.take_of_length_le (by omega)
theorem own_none {w : World} {base : Nat} {e : TypeId} {size g n c : Nat} {xs : List Value} (h : Own w base e size (some ⟨g, 0, none⟩) n c xs) : Own w base e size (some ⟨g, 0, none⟩) 0 c [] := by
  refine ⟨by simp, ?_⟩
  rcases h.2 with ⟨hv, _⟩ | ⟨g', cap, cur, hv, hb, hh, hnc, hm, hs, ht⟩
  · injection hv with hA; cases hA
  · injection hv with hA _ hcc
    injection hA with hA
    injection hA with hA _
    subst hA hcc
    exact .inr ⟨_, _, cur, rfl, hb, hh, Nat.zero_le _, hm, hs, by simp⟩
theorem blk_ap {w w' : World} {g : Nat} {t : TypeId} {cs : Array Value} {A : Option Addr} {row : Option Nat} (h : Blk w g cs t) (hg : w.grownBy w' row) (hr : AtRow A row) (hne : ∀ a, A = some a → a.block ≠ g) : Blk w' g cs t :=
  h.grown hg (fun e => by obtain ⟨a, ha, hab⟩ := hr _ e.symm; exact hne a ha hab)
def BodOk (l : List Chk) : Prop := ∀ r ∈ l, r.2.2.size ≤ 70
theorem BodOk.bods {l : List Chk} (h : BodOk l) : Bods l := fun r hr => Nat.le_trans (h r hr) (by omega)
theorem BodOk.app {l m : List Chk} (h : BodOk l) (k : BodOk m) : BodOk (l ++ m) := fun r hr => by
  rcases List.mem_append.1 hr with hr | hr
  · exact h r hr
  · exact k r hr
def PackD (g L : Nat) (w : World) (e : Ending) (w' : World) : Prop :=
  ∃ (f t q : Int) (A : Option Addr) (n c : Nat) (l : List Chk), e = .returned (packV f t q A n c) ∧ l.length = n ∧ n ≤ 12 ∧ BodOk l ∧ Own w' w.heap.size 46 3 A n c (chks l) ∧ RdB w' g L ∧ w.grownBy w' (some g)
set_option maxHeartbeats 6400000 in
set_option maxRecDepth 100000 in
theorem pack_drawn (g : Nat) (w : World) (L : Nat) (hr : RdB w g L) (hL : L ≤ 600000) : Calls Try.prog 22 #[.pointer (some ⟨g, 0, none⟩)] w (PackD g (L + 600) w) := by
  obtain ⟨i0, hi, hz0, hz1, hz2⟩ := info_parts info_chk
  have hgl := hr.lt
  have Q0 := Lib.hid (Blk.new w #[.int .i64 0, .int .i64 0, .int .i64 0, .slice none 0 0] 26)
  have G0 := Lib.hid (World.grownBy_alloc w (.cells #[.int .i64 0, .int .i64 0, .int .i64 0, .slice none 0 0] 26) (some g))
  go_enter Try.func22, Try.ntmps22
  go_wp2_with fail
  refine (pick_pos _ _ _ L (hr.alloc _) (by omega) (by omega)).mono ?_
  rintro e w1 ⟨q, rfl, q0, q1, r1, g1, s1⟩
  have G1 := Lib.hid (gb_trans G0.out g1 (fun k hk => .inl hk))
  have Q1 := Lib.hid (Q0.out.grown g1 (fun e => by injection e; omega))
  clear g1 s1
  go_wp2_with fail
  refine (chunk_drawn _ _ _ r1 (by omega)).mono ?_
  rintro e w2 ⟨⟨c1, c2, c3⟩, rfl, hs3, r2, g2⟩
  change c3.size ≤ 70 at hs3
  have G2 := Lib.hid (gb_trans G1.out g2 (fun k hk => .inl hk))
  have Q2 := Lib.hid (Q1.out.grown g2 (fun e => by injection e; omega))
  have hl2 := Q2.out.lt
  have hg2 := r2.lt
  clear g2
  have O2 := Lib.hid ((own_lit w.heap.size 46 #[.int .i64 c1, .int .i64 c2, .string c3] 3 (chks [(c1, c2, c3)]) (Nat.le_of_lt hl2) rfl rfl).alloc (.cells #[.int .i64 7, .int .i64 9, .int .i64 q, .slice (some ⟨w2.heap.size, 0, none⟩) 1 1] 26))
  have P2 := Lib.hid (show Blk ((w2.alloc (.cells #[.int .i64 c1, .int .i64 c2, .string c3] 46)).alloc (.cells #[.int .i64 7, .int .i64 9, .int .i64 q, .slice (some ⟨w2.heap.size, 0, none⟩) 1 1] 26)) (w2.heap.size + 1) #[.int .i64 7, .int .i64 9, .int .i64 q, .slice (some ⟨w2.heap.size, 0, none⟩) 1 1] 26 from by have := Blk.new (w2.alloc (.cells #[.int .i64 c1, .int .i64 c2, .string c3] 46)) #[.int .i64 7, .int .i64 9, .int .i64 q, .slice (some ⟨w2.heap.size, 0, none⟩) 1 1] 26; simpa using this)
  have Q3 := Lib.hid ((Q2.out.alloc (.cells #[.int .i64 c1, .int .i64 c2, .string c3] 46)).alloc (.cells #[.int .i64 7, .int .i64 9, .int .i64 q, .slice (some ⟨w2.heap.size, 0, none⟩) 1 1] 26))
  have R3 := Lib.hid ((r2.alloc (.cells #[.int .i64 c1, .int .i64 c2, .string c3] 46)).alloc (.cells #[.int .i64 7, .int .i64 9, .int .i64 q, .slice (some ⟨w2.heap.size, 0, none⟩) 1 1] 26))
  have G3 := Lib.hid (gb_alloc (gb_alloc G2.out (.cells #[.int .i64 c1, .int .i64 c2, .string c3] 46)) (.cells #[.int .i64 7, .int .i64 9, .int .i64 q, .slice (some ⟨w2.heap.size, 0, none⟩) 1 1] 26))
  go_wp2_with fail
  generalize (w2.alloc (.cells #[.int .i64 c1, .int .i64 c2, .string c3] 46)).alloc (.cells #[.int .i64 7, .int .i64 9, .int .i64 q, .slice (some ⟨w2.heap.size, 0, none⟩) 1 1] 26) = w3 at O2 P2 Q3 R3 G3 ⊢
  refine (pick_pos _ _ _ _ R3.out (by omega) (by omega)).mono ?_
  rintro e w4 ⟨N, rfl, N0, N1, r4, g4, s4⟩
  obtain ⟨N, rfl⟩ := Int.eq_ofNat_of_zero_le N0
  have G4 := Lib.hid (gb_trans G3.out g4 (fun k hk => .inl hk))
  have Q4 := Lib.hid (Q3.out.grown g4 (fun e => by injection e; omega))
  have P4 := Lib.hid (P2.out.grown g4 (fun e => by injection e; omega))
  have O4 := Lib.hid (O2.out.grown g4 (fun a ha => fun e => by injection e with e; have := (O2.out.blk a ha).1; omega))
  obtain ⟨pg, hpg⟩ : ∃ p, p = w2.heap.size + 1 := ⟨_, rfl⟩
  obtain ⟨rg, hrg⟩ : ∃ p, p = w2.heap.size := ⟨_, rfl⟩
  have hgp : g < pg := by omega
  have hqp : w.heap.size < pg := by omega
  rw [← hpg, ← hrg] at P4 ⊢
  rw [← hrg] at O4
  clear g4 s4 hpg hrg O2 P2 Q3 R3 G3 G2 Q2 G1 Q1 G0 Q0 r1 r2 N0 hl2 hg2
  go_wp2
  go_loopw [5] (fun iv wr => ∃ (j k' c : Nat) (l : List Chk) (ga : Nat), iv = .int .i64 j ∧ j ≤ N ∧ Hid (k' = 1 + j) ∧ Hid (l.length = k') ∧ Hid (BodOk l) ∧ Own wr w.heap.size 46 3 (some ⟨ga, 0, none⟩) k' c (chks l) ∧ Blk wr pg #[.int .i64 7, .int .i64 9, .int .i64 q, .slice (some ⟨ga, 0, none⟩) k' c] 26 ∧ Blk wr w.heap.size #[.int .i64 0, .int .i64 0, .int .i64 0, .slice none 0 0] 26 ∧ RdB wr g (L + 150 + 101 * j) ∧ w.grownBy wr (some g)) (fun iv _ => N - (intOf iv).toNat)
  case atStart => exact ⟨0, 1, 1, [(c1, c2, c3)], rg, rfl, by omega, Lib.hid rfl, Lib.hid rfl, Lib.hid (fun r hr => by simp at hr; subst hr; exact hs3), O4.out, P4.out, Q4.out, r4.mono (by omega), G4.out⟩
  case round =>
    obtain ⟨j, k', c, l, ga, rfl, hj, hk', hll, hbo, o, p, qq, r5, gr⟩ := hrel
    have O := Lib.hid o
    have P := Lib.hid p
    have Q := Lib.hid qq
    have G := Lib.hid gr
    have y3 : wr.cell? ⟨pg, 3, none⟩ = some (.slice (some ⟨ga, 0, none⟩) k' c) := P.out.get 3 rfl
    have yf3 := P.out.frozen 3
    have hpl := P.out.lt
    have hgw := G.out.size
    have hk3 : k' ≤ 3 := by have := hk'.out; omega
    have hk1 : 1 ≤ k' := by have := hk'.out; omega
    clear o p qq gr
    by_cases hlt : j < N
    · clear O4 P4 Q4 G4 r4
      go_wp2
      go_region_law (first
        | (refine step_app _ (by rfl) _ _ _ (by rfl) w.heap.size 46 i0 (.agg #[.int .i64 0, .int .i64 0, .string ⟨#[]⟩]) 3 32 Try.underlying24 hi hz0 hz1 hz2 rfl (by decide) (some ⟨ga, 0, none⟩) k' c (chks l) (by rfl) (O5.out.alloc _) (w5.heap.size + 1) (some ⟨w5.heap.size, 0, none⟩) 1 1 (chks [(d1, d2, d3)]) (by rfl) (sl_new rfl) (by rfl) (chks_one _) (by unfold maxLen; omega) (by omega) (by simp only [World.size_alloc]; omega) ?_; intro A6 c6 row w6 o6 g6 r6 d6; rw [← chks_app] at o6; have O6 := Lib.hid o6; have P6 := Lib.hid (blk_ap (P5.out.alloc _) g6 r6 (O5.out.ne_blk P5.out (by decide))); have Q6 := Lib.hid (blk_ap (Q5.out.alloc _) g6 r6 (O5.out.ne_blk Q5.out (by decide))); have R6 := Lib.hid ((R5.out.alloc _).grown g6 (fun k hk => by obtain ⟨a, ha, hab⟩ := r6 k hk; have := (O5.out.blk a ha).1; omega)); have G6 := Lib.hid (gb_trans (gb_alloc G5.out _) g6 (fun k hk => .inr (by obtain ⟨a, ha, hab⟩ := r6 k hk; have := (O5.out.blk a ha).1; omega))); have p3 : w6.cell? ⟨pg, 3, none⟩ = some (.slice (some ⟨ga, 0, none⟩) k' c) := P6.out.get 3 rfl; have pf3 := P6.out.frozen 3; have pl6 := P6.out.lt; clear o6 g6 r6 d6)
        | (go_simp; go_at_call 42; (with_reducible refine (chunk_drawn _ _ _ r5.drew (by omega)).mono ?_); rintro e w5 ⟨⟨d1, d2, d3⟩, rfl, hd3, r5', g5⟩; change d3.size ≤ 70 at hd3; have P5 := Lib.hid (P.out.drew.grown g5 (fun e => by injection e; omega)); have Q5 := Lib.hid (Q.out.drew.grown g5 (fun e => by injection e; omega)); have O5 := Lib.hid (O.out.drew.grown g5 (fun a ha => fun e => by injection e with e; have := (O.out.blk a ha).1; omega)); have G5 := Lib.hid (gb_trans (gb_drew G.out) g5 (fun k hk => .inl hk)); have R5 := Lib.hid r5'; have p3 : w5.cell? ⟨pg, 3, none⟩ = some (.slice (some ⟨ga, 0, none⟩) k' c) := P5.out.get 3 rfl; have pl5 := P5.out.lt; have gs5 := G5.out.size; clear g5 r5'))
      all_goals
        obtain ⟨g6', rfl⟩ := O6.out.some_of (by omega)
        go_wp2
        go_roundw
        case rel =>
          refine ⟨j + 1, k' + 1, c6, l ++ [(d1, d2, d3)], g6', by go_num, by omega, Lib.hid (by have := hk'.out; omega), Lib.hid (by rw [List.length_append, hll.out]; rfl), Lib.hid (hbo.out.app (fun r hr => by simp at hr; subst hr; exact hd3)), O6.out.set_ne (O6.out.ne_blk P6.out (by decide)) _, ?_, Q6.out.far (Nat.ne_of_lt hqp) _, ((R6.out.setCell (q := ⟨pg, 3, none⟩) hgp _).mono (by omega)), gb_setCell G6.out (.inr (Nat.le_of_lt hqp)) _⟩
          simpa using P6.out.set_ 3 (.slice (some ⟨g6', 0, none⟩) (k' + 1) c6)
        case measure => simp [intOf]; omega
    · have hj3 : j ≤ 2 := by omega
      go_wp2_with fail
      refine (pick_pos _ _ _ _ r5 (by omega) (by omega)).mono ?_
      rintro e w6 ⟨m, rfl, m0, m1, r6, g6, s6⟩
      have G6 := Lib.hid (gb_trans G.out g6 (fun k hk => .inl hk))
      have Q6 := Lib.hid (Q.out.grown g6 (fun e => by injection e; omega))
      have P6 := Lib.hid (P.out.grown g6 (fun e => by injection e; omega))
      have O6 := Lib.hid (O.out.grown g6 (fun a ha => fun e => by injection e with e; have := (O.out.blk a ha).1; omega))
      clear g6 s6 y3 yf3 hpl hgw r5 O P Q G O4 P4 Q4 G4 r4
      by_cases hm0 : m = 0
      · subst hm0
        go_wp2_with fail
        refine (word_any _ _ _ r6 (by omega)).mono ?_
        rintro e w7 ⟨v, rfl, v0, v1, r7, g7⟩
        have G7 := Lib.hid (gb_trans G6.out g7 (fun k hk => .inl hk))
        have Q7 := Lib.hid (Q6.out.grown g7 (fun e => by injection e; omega))
        have P7 := Lib.hid (P6.out.grown g7 (fun e => by injection e; omega))
        have O7 := Lib.hid (O6.out.grown g7 (fun a ha => fun e => by injection e with e; have := (O6.out.blk a ha).1; omega))
        clear g7
        have y0 : w7.cell? ⟨pg, 0, none⟩ = some (.int .i64 7) := P7.out.get 0 rfl
        have y1 : w7.cell? ⟨pg, 1, none⟩ = some (.int .i64 9) := P7.out.get 1 rfl
        have y2 : w7.cell? ⟨pg, 2, none⟩ = some (.int .i64 q) := P7.out.get 2 rfl
        have y3 : w7.cell? ⟨pg, 3, none⟩ = some (.slice (some ⟨ga, 0, none⟩) k' c) := P7.out.get 3 rfl
        have x0 : w7.cell? ⟨w.heap.size, 0, none⟩ = some (.int .i64 0) := Q7.out.get 0 rfl
        have x1 : w7.cell? ⟨w.heap.size, 1, none⟩ = some (.int .i64 0) := Q7.out.get 1 rfl
        have x2 : w7.cell? ⟨w.heap.size, 2, none⟩ = some (.int .i64 0) := Q7.out.get 2 rfl
        have x3 : w7.cell? ⟨w.heap.size, 3, none⟩ = some (.slice none 0 0) := Q7.out.get 3 rfl
        have xf0 := Q7.out.frozen 0
        have xf1 := Q7.out.frozen 1
        have xf2 := Q7.out.frozen 2
        have xf3 := Q7.out.frozen 3
        have yf := P7.out.frozen 0
        have hlx := Q7.out.lt
        have hly := P7.out.lt
        go_wp2
        refine bodyPost_ret (v := packV (v) (9) (q) (some ⟨ga, 0, none⟩) (k') (c)) (by simp [results, Try.results22, go_sem, x0, x1, x2, x3, y0, y1, y2, y3, hlx, hly, packV]) rfl ⟨v, 9, q, some ⟨ga, 0, none⟩, k', c, _, rfl, hll.out, by omega, hbo.out, (((((O7.out.set_ne (O7.out.ne_blk P7.out (by decide)) _).set_ne (O7.out.ne_blk Q7.out (by decide)) _).set_ne (O7.out.ne_blk Q7.out (by decide)) _).set_ne (O7.out.ne_blk Q7.out (by decide)) _).set_ne (O7.out.ne_blk Q7.out (by decide)) _), (((((r7.setCell (q := ⟨pg, 0, none⟩) hgp _).setCell (q := ⟨w.heap.size, 0, none⟩) hgl _).setCell (q := ⟨w.heap.size, 1, none⟩) hgl _).setCell (q := ⟨w.heap.size, 2, none⟩) hgl _).setCell (q := ⟨w.heap.size, 3, none⟩) hgl _).mono (by omega), gb_setCell (gb_setCell (gb_setCell (gb_setCell (gb_setCell G7.out (.inr (Nat.le_of_lt hqp)) _) (.inr (Nat.le_refl _)) _) (.inr (Nat.le_refl _)) _) (.inr (Nat.le_refl _)) _) (.inr (Nat.le_refl _)) _⟩
      have e0 : (m == 0) = false := by simpa using hm0
      by_cases hm1 : m = 1
      · subst hm1
        go_wp2_with fail
        refine (word_any _ _ _ r6 (by omega)).mono ?_
        rintro e w7 ⟨v, rfl, v0, v1, r7, g7⟩
        have G7 := Lib.hid (gb_trans G6.out g7 (fun k hk => .inl hk))
        have Q7 := Lib.hid (Q6.out.grown g7 (fun e => by injection e; omega))
        have P7 := Lib.hid (P6.out.grown g7 (fun e => by injection e; omega))
        have O7 := Lib.hid (O6.out.grown g7 (fun a ha => fun e => by injection e with e; have := (O6.out.blk a ha).1; omega))
        clear g7
        have y0 : w7.cell? ⟨pg, 0, none⟩ = some (.int .i64 7) := P7.out.get 0 rfl
        have y1 : w7.cell? ⟨pg, 1, none⟩ = some (.int .i64 9) := P7.out.get 1 rfl
        have y2 : w7.cell? ⟨pg, 2, none⟩ = some (.int .i64 q) := P7.out.get 2 rfl
        have y3 : w7.cell? ⟨pg, 3, none⟩ = some (.slice (some ⟨ga, 0, none⟩) k' c) := P7.out.get 3 rfl
        have x0 : w7.cell? ⟨w.heap.size, 0, none⟩ = some (.int .i64 0) := Q7.out.get 0 rfl
        have x1 : w7.cell? ⟨w.heap.size, 1, none⟩ = some (.int .i64 0) := Q7.out.get 1 rfl
        have x2 : w7.cell? ⟨w.heap.size, 2, none⟩ = some (.int .i64 0) := Q7.out.get 2 rfl
        have x3 : w7.cell? ⟨w.heap.size, 3, none⟩ = some (.slice none 0 0) := Q7.out.get 3 rfl
        have xf0 := Q7.out.frozen 0
        have xf1 := Q7.out.frozen 1
        have xf2 := Q7.out.frozen 2
        have xf3 := Q7.out.frozen 3
        have yf := P7.out.frozen 1
        have hlx := Q7.out.lt
        have hly := P7.out.lt
        go_wp2
        refine bodyPost_ret (v := packV (7) (v) (q) (some ⟨ga, 0, none⟩) (k') (c)) (by simp [results, Try.results22, go_sem, x0, x1, x2, x3, y0, y1, y2, y3, hlx, hly, packV]) rfl ⟨7, v, q, some ⟨ga, 0, none⟩, k', c, _, rfl, hll.out, by omega, hbo.out, (((((O7.out.set_ne (O7.out.ne_blk P7.out (by decide)) _).set_ne (O7.out.ne_blk Q7.out (by decide)) _).set_ne (O7.out.ne_blk Q7.out (by decide)) _).set_ne (O7.out.ne_blk Q7.out (by decide)) _).set_ne (O7.out.ne_blk Q7.out (by decide)) _), (((((r7.setCell (q := ⟨pg, 1, none⟩) hgp _).setCell (q := ⟨w.heap.size, 0, none⟩) hgl _).setCell (q := ⟨w.heap.size, 1, none⟩) hgl _).setCell (q := ⟨w.heap.size, 2, none⟩) hgl _).setCell (q := ⟨w.heap.size, 3, none⟩) hgl _).mono (by omega), gb_setCell (gb_setCell (gb_setCell (gb_setCell (gb_setCell G7.out (.inr (Nat.le_of_lt hqp)) _) (.inr (Nat.le_refl _)) _) (.inr (Nat.le_refl _)) _) (.inr (Nat.le_refl _)) _) (.inr (Nat.le_refl _)) _⟩
      have e1 : (m == 1) = false := by simpa using hm1
      by_cases hm2 : m = 2
      · subst hm2
        go_wp2_with fail
        refine (long_any _ _ _ r6 (by omega)).mono ?_
        rintro e w7 ⟨v, rfl, v0, v1, r7, g7⟩
        have G7 := Lib.hid (gb_trans G6.out g7 (fun k hk => .inl hk))
        have Q7 := Lib.hid (Q6.out.grown g7 (fun e => by injection e; omega))
        have P7 := Lib.hid (P6.out.grown g7 (fun e => by injection e; omega))
        have O7 := Lib.hid (O6.out.grown g7 (fun a ha => fun e => by injection e with e; have := (O6.out.blk a ha).1; omega))
        clear g7
        have y0 : w7.cell? ⟨pg, 0, none⟩ = some (.int .i64 7) := P7.out.get 0 rfl
        have y1 : w7.cell? ⟨pg, 1, none⟩ = some (.int .i64 9) := P7.out.get 1 rfl
        have y2 : w7.cell? ⟨pg, 2, none⟩ = some (.int .i64 q) := P7.out.get 2 rfl
        have y3 : w7.cell? ⟨pg, 3, none⟩ = some (.slice (some ⟨ga, 0, none⟩) k' c) := P7.out.get 3 rfl
        have x0 : w7.cell? ⟨w.heap.size, 0, none⟩ = some (.int .i64 0) := Q7.out.get 0 rfl
        have x1 : w7.cell? ⟨w.heap.size, 1, none⟩ = some (.int .i64 0) := Q7.out.get 1 rfl
        have x2 : w7.cell? ⟨w.heap.size, 2, none⟩ = some (.int .i64 0) := Q7.out.get 2 rfl
        have x3 : w7.cell? ⟨w.heap.size, 3, none⟩ = some (.slice none 0 0) := Q7.out.get 3 rfl
        have xf0 := Q7.out.frozen 0
        have xf1 := Q7.out.frozen 1
        have xf2 := Q7.out.frozen 2
        have xf3 := Q7.out.frozen 3
        have yf := P7.out.frozen 2
        have hlx := Q7.out.lt
        have hly := P7.out.lt
        go_wp2
        refine bodyPost_ret (v := packV (7) (9) (v) (some ⟨ga, 0, none⟩) (k') (c)) (by simp [results, Try.results22, go_sem, x0, x1, x2, x3, y0, y1, y2, y3, hlx, hly, packV]) rfl ⟨7, 9, v, some ⟨ga, 0, none⟩, k', c, _, rfl, hll.out, by omega, hbo.out, (((((O7.out.set_ne (O7.out.ne_blk P7.out (by decide)) _).set_ne (O7.out.ne_blk Q7.out (by decide)) _).set_ne (O7.out.ne_blk Q7.out (by decide)) _).set_ne (O7.out.ne_blk Q7.out (by decide)) _).set_ne (O7.out.ne_blk Q7.out (by decide)) _), (((((r7.setCell (q := ⟨pg, 2, none⟩) hgp _).setCell (q := ⟨w.heap.size, 0, none⟩) hgl _).setCell (q := ⟨w.heap.size, 1, none⟩) hgl _).setCell (q := ⟨w.heap.size, 2, none⟩) hgl _).setCell (q := ⟨w.heap.size, 3, none⟩) hgl _).mono (by omega), gb_setCell (gb_setCell (gb_setCell (gb_setCell (gb_setCell G7.out (.inr (Nat.le_of_lt hqp)) _) (.inr (Nat.le_refl _)) _) (.inr (Nat.le_refl _)) _) (.inr (Nat.le_refl _)) _) (.inr (Nat.le_refl _)) _⟩
      have e2 : (m == 2) = false := by simpa using hm2
      by_cases hm3 : m = 3
      · subst hm3
        have sh := fun w => slice_head Try.underlying24 hi ga k' c (0 : Int) 0 rfl (Nat.zero_le _) w
        have y0 : w6.cell? ⟨pg, 0, none⟩ = some (.int .i64 7) := P6.out.get 0 rfl
        have y1 : w6.cell? ⟨pg, 1, none⟩ = some (.int .i64 9) := P6.out.get 1 rfl
        have y2 : w6.cell? ⟨pg, 2, none⟩ = some (.int .i64 q) := P6.out.get 2 rfl
        have y3 : w6.cell? ⟨pg, 3, none⟩ = some (.slice (some ⟨ga, 0, none⟩) k' c) := P6.out.get 3 rfl
        have x0 : w6.cell? ⟨w.heap.size, 0, none⟩ = some (.int .i64 0) := Q6.out.get 0 rfl
        have x1 : w6.cell? ⟨w.heap.size, 1, none⟩ = some (.int .i64 0) := Q6.out.get 1 rfl
        have x2 : w6.cell? ⟨w.heap.size, 2, none⟩ = some (.int .i64 0) := Q6.out.get 2 rfl
        have x3 : w6.cell? ⟨w.heap.size, 3, none⟩ = some (.slice none 0 0) := Q6.out.get 3 rfl
        have xf0 := Q6.out.frozen 0
        have xf1 := Q6.out.frozen 1
        have xf2 := Q6.out.frozen 2
        have xf3 := Q6.out.frozen 3
        have yf := P6.out.frozen 3
        have hlx := Q6.out.lt
        have hly := P6.out.lt
        go_wp2
        refine bodyPost_ret (v := packV (7) (9) (q) (some ⟨ga, 0, none⟩) (0) (c)) (by simp [results, Try.results22, go_sem, x0, x1, x2, x3, y0, y1, y2, y3, hlx, hly, packV]) rfl ⟨7, 9, q, some ⟨ga, 0, none⟩, 0, c, _, rfl, (show ([] : List Chk).length = 0 from rfl), by omega, (fun r hr => by simp at hr), ((((((own_none O6.out).set_ne ((own_none O6.out).ne_blk P6.out (by decide)) _).set_ne ((own_none O6.out).ne_blk Q6.out (by decide)) _).set_ne ((own_none O6.out).ne_blk Q6.out (by decide)) _).set_ne ((own_none O6.out).ne_blk Q6.out (by decide)) _).set_ne ((own_none O6.out).ne_blk Q6.out (by decide)) _), (((((r6.setCell (q := ⟨pg, 3, none⟩) hgp _).setCell (q := ⟨w.heap.size, 0, none⟩) hgl _).setCell (q := ⟨w.heap.size, 1, none⟩) hgl _).setCell (q := ⟨w.heap.size, 2, none⟩) hgl _).setCell (q := ⟨w.heap.size, 3, none⟩) hgl _).mono (by omega), gb_setCell (gb_setCell (gb_setCell (gb_setCell (gb_setCell G6.out (.inr (Nat.le_of_lt hqp)) _) (.inr (Nat.le_refl _)) _) (.inr (Nat.le_refl _)) _) (.inr (Nat.le_refl _)) _) (.inr (Nat.le_refl _)) _⟩
      have e3 : (m == 3) = false := by simpa using hm3
      by_cases hm4 : m = 4
      · subst hm4
        have y3 : w6.cell? ⟨pg, 3, none⟩ = some (.slice (some ⟨ga, 0, none⟩) k' c) := P6.out.get 3 rfl
        have hg6 := G6.out.size
        have hlp6 := P6.out.lt
        go_wp2
        go_region_law (first
          | (refine step_dup _ (by rfl) _ _ _ (by rfl) w.heap.size 46 i0 (.agg #[.int .i64 0, .int .i64 0, .string ⟨#[]⟩]) 3 32 Try.underlying24 hi hz0 hz1 hz2 rfl (by decide) ga k' c (chks l) (by rfl) (by rfl) O6.out.drew (chks_one _) (by unfold maxLen; omega) (by omega) (by simp only [World.size_drew]; omega) ?_; intro A7 c7 row7 w7 o7 g7 a7 s7; rw [← chks_app] at o7; have O7 := Lib.hid o7; have S7 := Lib.hid s7; have P7 := Lib.hid (blk_ap P6.out.drew g7 a7 (O6.out.ne_blk P6.out (by decide))); have Q7 := Lib.hid (blk_ap Q6.out.drew g7 a7 (O6.out.ne_blk Q6.out (by decide))); have R7 := Lib.hid (r6.drew.grown g7 (fun k hk => by obtain ⟨a, ha, hab⟩ := a7 k hk; have := (O6.out.blk a ha).1; omega)); have G7 := Lib.hid (gb_trans (gb_drew G6.out) g7 (fun k hk => .inr (by obtain ⟨a, ha, hab⟩ := a7 k hk; have := (O6.out.blk a ha).1; omega))); have p3 : w7.cell? ⟨pg, 3, none⟩ = some (.slice (some ⟨ga, 0, none⟩) k' c) := P7.out.get 3 rfl; have pl7 := P7.out.lt; have gs7 := G7.out.size; clear o7 s7 g7 a7)
          | (refine step_app _ (by rfl) _ _ _ (by rfl) w.heap.size 46 i0 (.agg #[.int .i64 0, .int .i64 0, .string ⟨#[]⟩]) 3 32 Try.underlying24 hi hz0 hz1 hz2 rfl (by decide) A7 (k' + k') c7 (chks (l ++ l)) (by rfl) O7.out w7.heap.size (some ⟨ga, 0, none⟩) k' c (chks l) (by rfl) S7.out (by rw [chks_len, hll.out]) (chks_one _) (by unfold maxLen; omega) (by omega) (by omega) ?_; intro A8 c8 row8 w8 o8 g8 a8 d8; rw [← chks_app] at o8; have O8 := Lib.hid o8; have P8 := Lib.hid (blk_ap P7.out g8 a8 (O7.out.ne_blk P7.out (by decide))); have Q8 := Lib.hid (blk_ap Q7.out g8 a8 (O7.out.ne_blk Q7.out (by decide))); have R8 := Lib.hid (R7.out.grown g8 (fun k hk => by obtain ⟨a, ha, hab⟩ := a8 k hk; have := (O7.out.blk a ha).1; omega)); have G8 := Lib.hid (gb_trans G7.out g8 (fun k hk => .inr (by obtain ⟨a, ha, hab⟩ := a8 k hk; have := (O7.out.blk a ha).1; omega))); have y0 : w8.cell? ⟨pg, 0, none⟩ = some (.int .i64 7) := P8.out.get 0 rfl; have y1 : w8.cell? ⟨pg, 1, none⟩ = some (.int .i64 9) := P8.out.get 1 rfl; have y2 : w8.cell? ⟨pg, 2, none⟩ = some (.int .i64 q) := P8.out.get 2 rfl; have y3 : w8.cell? ⟨pg, 3, none⟩ = some (.slice (some ⟨ga, 0, none⟩) k' c) := P8.out.get 3 rfl; have x0 : w8.cell? ⟨w.heap.size, 0, none⟩ = some (.int .i64 0) := Q8.out.get 0 rfl; have x1 : w8.cell? ⟨w.heap.size, 1, none⟩ = some (.int .i64 0) := Q8.out.get 1 rfl; have x2 : w8.cell? ⟨w.heap.size, 2, none⟩ = some (.int .i64 0) := Q8.out.get 2 rfl; have x3 : w8.cell? ⟨w.heap.size, 3, none⟩ = some (.slice none 0 0) := Q8.out.get 3 rfl; have xf0 := Q8.out.frozen 0; have xf1 := Q8.out.frozen 1; have xf2 := Q8.out.frozen 2; have xf3 := Q8.out.frozen 3; have yf := P8.out.frozen 3; have hlx := Q8.out.lt; have hly := P8.out.lt; clear o8 g8 a8 d8))
        all_goals
          go_wp2
          refine bodyPost_ret (v := packV (7) (9) (q) (A8) (k' + k' + k') (c8)) (by simp [results, Try.results22, go_sem, x0, x1, x2, x3, y0, y1, y2, y3, hlx, hly, packV]) rfl ⟨7, 9, q, A8, k' + k' + k', c8, _, rfl, (by rw [List.length_append, List.length_append, hll.out]), by omega, ((hbo.out.app hbo.out).app hbo.out), (((((O8.out.set_ne (O8.out.ne_blk P8.out (by decide)) _).set_ne (O8.out.ne_blk Q8.out (by decide)) _).set_ne (O8.out.ne_blk Q8.out (by decide)) _).set_ne (O8.out.ne_blk Q8.out (by decide)) _).set_ne (O8.out.ne_blk Q8.out (by decide)) _), (((((R8.out.setCell (q := ⟨pg, 3, none⟩) hgp _).setCell (q := ⟨w.heap.size, 0, none⟩) hgl _).setCell (q := ⟨w.heap.size, 1, none⟩) hgl _).setCell (q := ⟨w.heap.size, 2, none⟩) hgl _).setCell (q := ⟨w.heap.size, 3, none⟩) hgl _).mono (by omega), gb_setCell (gb_setCell (gb_setCell (gb_setCell (gb_setCell G8.out (.inr (Nat.le_of_lt hqp)) _) (.inr (Nat.le_refl _)) _) (.inr (Nat.le_refl _)) _) (.inr (Nat.le_refl _)) _) (.inr (Nat.le_refl _)) _⟩
      have e4 : (m == 4) = false := by simpa using hm4
      have y0 : w6.cell? ⟨pg, 0, none⟩ = some (.int .i64 7) := P6.out.get 0 rfl
      have y1 : w6.cell? ⟨pg, 1, none⟩ = some (.int .i64 9) := P6.out.get 1 rfl
      have y2 : w6.cell? ⟨pg, 2, none⟩ = some (.int .i64 q) := P6.out.get 2 rfl
      have y3 : w6.cell? ⟨pg, 3, none⟩ = some (.slice (some ⟨ga, 0, none⟩) k' c) := P6.out.get 3 rfl
      have x0 : w6.cell? ⟨w.heap.size, 0, none⟩ = some (.int .i64 0) := Q6.out.get 0 rfl
      have x1 : w6.cell? ⟨w.heap.size, 1, none⟩ = some (.int .i64 0) := Q6.out.get 1 rfl
      have x2 : w6.cell? ⟨w.heap.size, 2, none⟩ = some (.int .i64 0) := Q6.out.get 2 rfl
      have x3 : w6.cell? ⟨w.heap.size, 3, none⟩ = some (.slice none 0 0) := Q6.out.get 3 rfl
      have xf0 := Q6.out.frozen 0
      have xf1 := Q6.out.frozen 1
      have xf2 := Q6.out.frozen 2
      have xf3 := Q6.out.frozen 3
      have hlx := Q6.out.lt
      have hly := P6.out.lt
      go_wp2
      refine bodyPost_ret (v := packV (7) (9) (q) (some ⟨ga, 0, none⟩) (k') (c)) (by simp [results, Try.results22, go_sem, x0, x1, x2, x3, y0, y1, y2, y3, hlx, hly, packV]) rfl ⟨7, 9, q, some ⟨ga, 0, none⟩, k', c, _, rfl, hll.out, by omega, hbo.out, ((((O6.out.set_ne (O6.out.ne_blk Q6.out (by decide)) _).set_ne (O6.out.ne_blk Q6.out (by decide)) _).set_ne (O6.out.ne_blk Q6.out (by decide)) _).set_ne (O6.out.ne_blk Q6.out (by decide)) _), ((((r6.setCell (q := ⟨w.heap.size, 0, none⟩) hgl _).setCell (q := ⟨w.heap.size, 1, none⟩) hgl _).setCell (q := ⟨w.heap.size, 2, none⟩) hgl _).setCell (q := ⟨w.heap.size, 3, none⟩) hgl _).mono (by omega), gb_setCell (gb_setCell (gb_setCell (gb_setCell (G6.out) (.inr (Nat.le_refl _)) _) (.inr (Nat.le_refl _)) _) (.inr (Nat.le_refl _)) _) (.inr (Nat.le_refl _)) _⟩
end Go.Proofs.Ytlemdagiamnphaa
