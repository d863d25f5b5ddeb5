/-
  The statement that copies an assembly draws its order: whatever order is drawn, it ends in a box that holds two rows of its own. Conditions: those that each theorem bears.
-/
import Derived.Test.YtkhaodbcnnlhaaaDatE
import Derived.Test.YtkhaodbcnnlhaaaSeenE
namespace Go.Proofs.Ytkhaodbcnnlhaaa
open Go.ChangeShapes Go.WideShapes Go.ChangeAt Go.RowKit
set_option linter.unusedVariables false
set_option linter.unusedSimpArgs false
theorem ints_ones (zs : List Int) : ∀ u ∈ ints zs, u.oneCell' = true := by
  intro u hu
  unfold ints at hu
  obtain ⟨z, _, rfl⟩ := List.mem_map.1 hu
  rfl
theorem ev_ne (a : Act) {d k : Nat} (v : Value) (h : k ≠ d) : (a.put (some d) v).eval (.tmp k) = a.eval (.tmp k) :=
  Act.eval_put fun d' hd e => by injection hd with hd; injection e with e; exact h (e.trans hd.symm)
theorem ev_eq (a : Act) {d : Nat} (v : Value) (h : d < a.tmps.size) : (a.put (some d) v).eval (.tmp d) = v := by
  simp [Act.eval, Act.put, h]
theorem put_size (a : Act) (d : Option Tmp) (v : Value) : (a.put d v).tmps.size = a.tmps.size := by
  cases d <;> simp [Act.put]
theorem put_defs (a : Act) (d : Option Tmp) (v : Value) : (a.put d v).defers = a.defers := by
  cases d <;> rfl
theorem act_ext {a b : Act} (h1 : a.tmps.size = b.tmps.size) (h2 : a.defers = b.defers) (h3 : ∀ k, k < b.tmps.size → a.eval (.tmp k) = b.eval (.tmp k)) : a = b := by
  obtain ⟨s, d⟩ := a
  obtain ⟨s', d'⟩ := b
  have hd : d = d' := h2
  subst hd
  have hs : s = s' := by
    apply Array.ext h1
    intro i hi hi'
    have h := h3 i hi'
    simpa [Act.eval, hi, hi'] using h
  rw [hs]
theorem wpOp_free {P : Program} {ops : Array Oper} {Q : Exit → Act → World → Prop} {i : Nat} {x : Oper} {K : Act → World → Prop} {a : Act} {w : World} (hi : ops[i]? = some x) (hg : x.guard = none) (h : x.wp P a w K Q) : wpOp P ops Q i K a w := by
  unfold wpOp
  simp only [hi]
  have hw : Region.wanted x (yielded ops a.tmps) = true := by simp [Region.wanted, hg]
  rw [if_pos hw]
  exact .inl h
theorem own_apart {w : World} {base base' : Nat} {e e' : TypeId} {size size' n n' c c' : Nat} {A A' : Option Addr} {xs xs' : List Value} (h : Own w base e size A n c xs) (h' : Own w base' e' size' A' n' c' xs') (hne : e ≠ e') : ∀ a b, A = some a → A' = some b → a.block ≠ b.block := by
  intro a b ha hb
  rcases h'.2 with ⟨hv, _⟩ | ⟨g, cap, cur, hv, _, hh, _⟩
  · injection hv with hA
    rw [hA] at hb
    cases hb
  · injection hv with hA
    rw [hA] at hb
    injection hb with hb
    subst hb
    exact h.ne_blk (g := g) (cs := cur) hh hne a ha
theorem own_held {w w' : World} {base base' : Nat} {e e' : TypeId} {size size' n n' c c' : Nat} {A A' : Option Addr} {xs xs' : List Value} {row : Option Nat} (h : Own w base e size A n c xs) (h' : Own w base' e' size' A' n' c' xs') (hne : e' ≠ e) (hg : w.grownBy w' row) (hr : AtRow A' row) : Own w' base e size A n c xs :=
  own_marked h h' hg hr (own_apart h' h hne)
theorem blk_held {w w' : World} {base : Nat} {e t : TypeId} {size n c g : Nat} {A : Option Addr} {xs : List Value} {cs : Array Value} {row : Option Nat} (q : Blk w g cs t) (h : Own w base e size A n c xs) (hne : e ≠ t) (hg : w.grownBy w' row) (hr : AtRow A row) : Blk w' g cs t :=
  blk_at q hg hr (h.ne_blk q hne)
theorem own_far {w : World} {base : Nat} {e : TypeId} {size n c g : Nat} {A : Option Addr} {xs : List Value} {cs : Array Value} {t : TypeId} (h : Own w base e size A n c xs) (q : Blk w g cs t) (hne : e ≠ t) (i : Nat) (u : Value) : Own (w.setCell ⟨g, i, none⟩ u) base e size A n c xs :=
  h.set_ne (h.ne_blk q hne) u
/-- The eleven operations. -/
def opsI (p0 p1 p2 p3 p4 p5 p6 p7 p8 p9 p10 : String) : Array Oper := #[{ dst := some 35, op := .buildSlice 33 0 #[], type := 33, pos := p0, after := #[], guard := none }, { dst := some 36, op := .fieldAddr 41 (.tmp 2) 0, type := 0, pos := p1, after := #[], guard := none }, { dst := some 37, op := .load 33 (.tmp 36), type := 33, pos := p2, after := #[{ on := 1, ground := .data }], guard := none }, { dst := some 38, op := .call { callee := .builtin .append, args := #[.tmp 35, .tmp 37], argTypes := #[33, 33] }, type := 33, pos := p3, after := #[{ on := 0, ground := .data }, { on := 2, ground := .data }], guard := none }, { dst := some 39, op := .buildSlice 26 0 #[], type := 26, pos := p4, after := #[], guard := none }, { dst := some 40, op := .fieldAddr 41 (.tmp 2) 1, type := 0, pos := p5, after := #[], guard := none }, { dst := some 41, op := .load 26 (.tmp 40), type := 26, pos := p6, after := #[{ on := 5, ground := .data }], guard := none }, { dst := some 42, op := .call { callee := .builtin .append, args := #[.tmp 39, .tmp 41], argTypes := #[26, 26] }, type := 26, pos := p7, after := #[{ on := 4, ground := .data }, { on := 6, ground := .data }, { on := 3, ground := .chain }], guard := none }, { dst := some 43, op := .build 41 #[(0, .tmp 38), (1, .tmp 42)], type := 41, pos := p8, after := #[{ on := 3, ground := .data }, { on := 7, ground := .data }], guard := none }, { dst := some 7, op := .alloc 41, type := 0, pos := p9, after := #[], guard := none }, { dst := none, op := .store 41 (.tmp 7) (.tmp 43), type := 0, pos := p10, after := #[{ on := 9, ground := .data }, { on := 8, ground := .data }, { on := 7, ground := .chain }, { on := 0, ground := .phase }, { on := 1, ground := .phase }, { on := 2, ground := .phase }, { on := 3, ground := .phase }, { on := 4, ground := .phase }, { on := 5, ground := .phase }, { on := 6, ground := .phase }, { on := 7, ground := .phase }, { on := 8, ground := .phase }, { on := 9, ground := .phase }], guard := none }]
structure InvI (a0 : Act) (w0 : World) (g : Nat) (A : Option Addr) (n c : Nat) (zs : List Int) (A2 : Option Addr) (m d : Nat) (ps : List Dat) (b0 b1 b2 b3 b4 b5 b6 b7 b8 b9 b10 : Bool) (a : Act) (w : World) : Prop where
  df : a.defers = a0.defers
  sz : a.tmps.size = a0.tmps.size
  fr : ∀ k, k ∉ [35, 36, 37, 38, 39, 40, 41, 42, 43, 7] → a.eval (.tmp k) = a0.eval (.tmp k)
  bl : Below w0.heap.size w0 w
  c7 : b7 = true → b3 = true
  c8 : b8 = true → b7 = true
  c10 : b10 = true → b8 = true ∧ b9 = true
  s0 : b0 = true → b3 = false → ∃ A, a.eval (.tmp 35) = .slice A 0 0 ∧ Own w w0.heap.size 3 1 A 0 0 []
  s1 : b1 = true → a.eval (.tmp 36) = .pointer (some ⟨g, 0, none⟩)
  s2 : b2 = true → a.eval (.tmp 37) = .slice A n c
  s3 : b3 = true → ∃ A1 c1, a.eval (.tmp 38) = .slice A1 n c1 ∧ Own w w0.heap.size 3 1 A1 n c1 (ints zs)
  s4 : b4 = true → b7 = false → ∃ A, a.eval (.tmp 39) = .slice A 0 0 ∧ Own w w0.heap.size 45 7 A 0 0 []
  s5 : b5 = true → a.eval (.tmp 40) = .pointer (some ⟨g, 1, none⟩)
  s6 : b6 = true → a.eval (.tmp 41) = .slice A2 m d
  s7 : b7 = true → ∃ A3 c3, a.eval (.tmp 42) = .slice A3 m c3 ∧ Own w w0.heap.size 45 7 A3 m c3 (dats ps)
  s8 : b8 = true → a.eval (.tmp 43) = .agg #[a.eval (.tmp 38), a.eval (.tmp 42)]
  s9 : b9 = true → ∃ h x y, a.eval (.tmp 7) = .pointer (some ⟨h, 0, none⟩) ∧ w0.heap.size ≤ h ∧ Blk w h #[x, y] 41 ∧ (b10 = true → x = a.eval (.tmp 38) ∧ y = a.eval (.tmp 42))
set_option maxHeartbeats 400000 in
theorem stepI1 {Q : Exit → Act → World → Prop} {K : Act → World → Prop} (p0 p1 p2 p3 p4 p5 p6 p7 p8 p9 p10 : String) (a0 : Act) (w0 : World) (g : Nat) (A : Option Addr) (n c : Nat) (zs : List Int) (A2 : Option Addr) (m d : Nat) (ps : List Dat) (hz : 43 < a0.tmps.size) (hg2 : a0.eval (.tmp 2) = .pointer (some ⟨g, 0, none⟩)) (hgl : g < w0.heap.size) (hx0 : w0.cell? ⟨g, 0, none⟩ = some (.slice A n c)) (hx1 : w0.cell? ⟨g, 1, none⟩ = some (.slice A2 m d)) (hs : Sl w0 w0.heap.size A (ints zs)) (hp : Sl w0 w0.heap.size A2 (dats ps)) (hn : zs.length = n) (hm : ps.length = m) (hn2 : n ≤ 1048576) (hm2 : m ≤ 1048576) {b0 b2 b3 b4 b5 b6 b7 b8 b9 b10 : Bool} {a : Act} {w : World}
    (I : InvI a0 w0 g A n c zs A2 m d ps b0 false b2 b3 b4 b5 b6 b7 b8 b9 b10 a w) (hK : ∀ a' w', InvI a0 w0 g A n c zs A2 m d ps b0 true b2 b3 b4 b5 b6 b7 b8 b9 b10 a' w' → K a' w') : wpOp Try.prog (opsI p0 p1 p2 p3 p4 p5 p6 p7 p8 p9 p10) Q 1 K a w := by
  refine wpOp_free (x := { dst := some 36, op := .fieldAddr 41 (.tmp 2) 0, type := 0, pos := p1, after := #[], guard := none }) rfl rfl ?_
  have e2 : a.eval (.tmp 2) = .pointer (some ⟨g, 0, none⟩) := (I.fr 2 (by decide)).trans hg2
  have e2' := e2; simp only [Act.eval, Array.getD_eq_getD_getElem?] at e2'
  go_simp
  refine hK (Act.put a (some 36) _) _ (⟨((put_defs a (some 36) _).trans I.df),
      ((put_size a (some 36) _).trans I.sz),
      (fun k hk => (ev_ne a (d := 36) _ (fun e => hk (by subst e; decide))).trans (I.fr k hk)),
      (I.bl),
      (I.c7),
      (I.c8),
      (I.c10),
      (fun h h' => by obtain ⟨A', e1, o1⟩ := I.s0 h h'; exact ⟨A', (ev_ne a _ (by decide : (35 : Nat) ≠ 36)).trans e1, o1⟩),
      (fun _ => ev_eq a _ (show 36 < a.tmps.size by rw [I.sz]; omega)),
      (fun h => (ev_ne a _ (by decide : (37 : Nat) ≠ 36)).trans (I.s2 h)),
      (fun h => by obtain ⟨A', c', e1, o1⟩ := I.s3 h; exact ⟨A', c', (ev_ne a _ (by decide : (38 : Nat) ≠ 36)).trans e1, o1⟩),
      (fun h h' => by obtain ⟨A', e1, o1⟩ := I.s4 h h'; exact ⟨A', (ev_ne a _ (by decide : (39 : Nat) ≠ 36)).trans e1, o1⟩),
      (fun h => (ev_ne a _ (by decide : (40 : Nat) ≠ 36)).trans (I.s5 h)),
      (fun h => (ev_ne a _ (by decide : (41 : Nat) ≠ 36)).trans (I.s6 h)),
      (fun h => by obtain ⟨A', c', e1, o1⟩ := I.s7 h; exact ⟨A', c', (ev_ne a _ (by decide : (42 : Nat) ≠ 36)).trans e1, o1⟩),
      (fun h => by rw [ev_ne a _ (by decide : (43 : Nat) ≠ 36), ev_ne a _ (by decide : (38 : Nat) ≠ 36), ev_ne a _ (by decide : (42 : Nat) ≠ 36)]; exact I.s8 h),
      (fun h => by obtain ⟨h', x, y, e1, l1, q1, k1⟩ := I.s9 h; exact ⟨h', x, y, (ev_ne a _ (by decide : (7 : Nat) ≠ 36)).trans e1, l1, q1, fun h => by rw [ev_ne a _ (by decide : (38 : Nat) ≠ 36), ev_ne a _ (by decide : (42 : Nat) ≠ 36)]; exact k1 h⟩)⟩)
set_option maxHeartbeats 400000 in
theorem stepI5 {Q : Exit → Act → World → Prop} {K : Act → World → Prop} (p0 p1 p2 p3 p4 p5 p6 p7 p8 p9 p10 : String) (a0 : Act) (w0 : World) (g : Nat) (A : Option Addr) (n c : Nat) (zs : List Int) (A2 : Option Addr) (m d : Nat) (ps : List Dat) (hz : 43 < a0.tmps.size) (hg2 : a0.eval (.tmp 2) = .pointer (some ⟨g, 0, none⟩)) (hgl : g < w0.heap.size) (hx0 : w0.cell? ⟨g, 0, none⟩ = some (.slice A n c)) (hx1 : w0.cell? ⟨g, 1, none⟩ = some (.slice A2 m d)) (hs : Sl w0 w0.heap.size A (ints zs)) (hp : Sl w0 w0.heap.size A2 (dats ps)) (hn : zs.length = n) (hm : ps.length = m) (hn2 : n ≤ 1048576) (hm2 : m ≤ 1048576) {b0 b1 b2 b3 b4 b6 b7 b8 b9 b10 : Bool} {a : Act} {w : World}
    (I : InvI a0 w0 g A n c zs A2 m d ps b0 b1 b2 b3 b4 false b6 b7 b8 b9 b10 a w) (hK : ∀ a' w', InvI a0 w0 g A n c zs A2 m d ps b0 b1 b2 b3 b4 true b6 b7 b8 b9 b10 a' w' → K a' w') : wpOp Try.prog (opsI p0 p1 p2 p3 p4 p5 p6 p7 p8 p9 p10) Q 5 K a w := by
  refine wpOp_free (x := { dst := some 40, op := .fieldAddr 41 (.tmp 2) 1, type := 0, pos := p5, after := #[], guard := none }) rfl rfl ?_
  have e2 : a.eval (.tmp 2) = .pointer (some ⟨g, 0, none⟩) := (I.fr 2 (by decide)).trans hg2
  have e2' := e2; simp only [Act.eval, Array.getD_eq_getD_getElem?] at e2'
  go_simp
  refine hK (Act.put a (some 40) _) _ (⟨((put_defs a (some 40) _).trans I.df),
      ((put_size a (some 40) _).trans I.sz),
      (fun k hk => (ev_ne a (d := 40) _ (fun e => hk (by subst e; decide))).trans (I.fr k hk)),
      (I.bl),
      (I.c7),
      (I.c8),
      (I.c10),
      (fun h h' => by obtain ⟨A', e1, o1⟩ := I.s0 h h'; exact ⟨A', (ev_ne a _ (by decide : (35 : Nat) ≠ 40)).trans e1, o1⟩),
      (fun h => (ev_ne a _ (by decide : (36 : Nat) ≠ 40)).trans (I.s1 h)),
      (fun h => (ev_ne a _ (by decide : (37 : Nat) ≠ 40)).trans (I.s2 h)),
      (fun h => by obtain ⟨A', c', e1, o1⟩ := I.s3 h; exact ⟨A', c', (ev_ne a _ (by decide : (38 : Nat) ≠ 40)).trans e1, o1⟩),
      (fun h h' => by obtain ⟨A', e1, o1⟩ := I.s4 h h'; exact ⟨A', (ev_ne a _ (by decide : (39 : Nat) ≠ 40)).trans e1, o1⟩),
      (fun _ => ev_eq a _ (show 40 < a.tmps.size by rw [I.sz]; omega)),
      (fun h => (ev_ne a _ (by decide : (41 : Nat) ≠ 40)).trans (I.s6 h)),
      (fun h => by obtain ⟨A', c', e1, o1⟩ := I.s7 h; exact ⟨A', c', (ev_ne a _ (by decide : (42 : Nat) ≠ 40)).trans e1, o1⟩),
      (fun h => by rw [ev_ne a _ (by decide : (43 : Nat) ≠ 40), ev_ne a _ (by decide : (38 : Nat) ≠ 40), ev_ne a _ (by decide : (42 : Nat) ≠ 40)]; exact I.s8 h),
      (fun h => by obtain ⟨h', x, y, e1, l1, q1, k1⟩ := I.s9 h; exact ⟨h', x, y, (ev_ne a _ (by decide : (7 : Nat) ≠ 40)).trans e1, l1, q1, fun h => by rw [ev_ne a _ (by decide : (38 : Nat) ≠ 40), ev_ne a _ (by decide : (42 : Nat) ≠ 40)]; exact k1 h⟩)⟩)
set_option maxHeartbeats 400000 in
theorem stepI2 {Q : Exit → Act → World → Prop} {K : Act → World → Prop} (p0 p1 p2 p3 p4 p5 p6 p7 p8 p9 p10 : String) (a0 : Act) (w0 : World) (g : Nat) (A : Option Addr) (n c : Nat) (zs : List Int) (A2 : Option Addr) (m d : Nat) (ps : List Dat) (hz : 43 < a0.tmps.size) (hg2 : a0.eval (.tmp 2) = .pointer (some ⟨g, 0, none⟩)) (hgl : g < w0.heap.size) (hx0 : w0.cell? ⟨g, 0, none⟩ = some (.slice A n c)) (hx1 : w0.cell? ⟨g, 1, none⟩ = some (.slice A2 m d)) (hs : Sl w0 w0.heap.size A (ints zs)) (hp : Sl w0 w0.heap.size A2 (dats ps)) (hn : zs.length = n) (hm : ps.length = m) (hn2 : n ≤ 1048576) (hm2 : m ≤ 1048576) {b0 b3 b4 b5 b6 b7 b8 b9 b10 : Bool} {a : Act} {w : World}
    (I : InvI a0 w0 g A n c zs A2 m d ps b0 true false b3 b4 b5 b6 b7 b8 b9 b10 a w) (hK : ∀ a' w', InvI a0 w0 g A n c zs A2 m d ps b0 true true b3 b4 b5 b6 b7 b8 b9 b10 a' w' → K a' w') : wpOp Try.prog (opsI p0 p1 p2 p3 p4 p5 p6 p7 p8 p9 p10) Q 2 K a w := by
  refine wpOp_free (x := { dst := some 37, op := .load 33 (.tmp 36), type := 33, pos := p2, after := #[{ on := 1, ground := .data }], guard := none }) rfl rfl ?_
  have e2 := I.s1 rfl
  have e2' := e2; simp only [Act.eval, Array.getD_eq_getD_getElem?] at e2'
  have x0 : w.cell? ⟨g, 0, none⟩ = some (.slice A n c) := ((bcell I.bl).1 g 0 hgl).trans hx0
  go_simp
  refine hK (Act.put a (some 37) _) _ (⟨((put_defs a (some 37) _).trans I.df),
      ((put_size a (some 37) _).trans I.sz),
      (fun k hk => (ev_ne a (d := 37) _ (fun e => hk (by subst e; decide))).trans (I.fr k hk)),
      (I.bl),
      (I.c7),
      (I.c8),
      (I.c10),
      (fun h h' => by obtain ⟨A', e1, o1⟩ := I.s0 h h'; exact ⟨A', (ev_ne a _ (by decide : (35 : Nat) ≠ 37)).trans e1, o1⟩),
      (fun h => (ev_ne a _ (by decide : (36 : Nat) ≠ 37)).trans (I.s1 h)),
      (fun _ => ev_eq a _ (show 37 < a.tmps.size by rw [I.sz]; omega)),
      (fun h => by obtain ⟨A', c', e1, o1⟩ := I.s3 h; exact ⟨A', c', (ev_ne a _ (by decide : (38 : Nat) ≠ 37)).trans e1, o1⟩),
      (fun h h' => by obtain ⟨A', e1, o1⟩ := I.s4 h h'; exact ⟨A', (ev_ne a _ (by decide : (39 : Nat) ≠ 37)).trans e1, o1⟩),
      (fun h => (ev_ne a _ (by decide : (40 : Nat) ≠ 37)).trans (I.s5 h)),
      (fun h => (ev_ne a _ (by decide : (41 : Nat) ≠ 37)).trans (I.s6 h)),
      (fun h => by obtain ⟨A', c', e1, o1⟩ := I.s7 h; exact ⟨A', c', (ev_ne a _ (by decide : (42 : Nat) ≠ 37)).trans e1, o1⟩),
      (fun h => by rw [ev_ne a _ (by decide : (43 : Nat) ≠ 37), ev_ne a _ (by decide : (38 : Nat) ≠ 37), ev_ne a _ (by decide : (42 : Nat) ≠ 37)]; exact I.s8 h),
      (fun h => by obtain ⟨h', x, y, e1, l1, q1, k1⟩ := I.s9 h; exact ⟨h', x, y, (ev_ne a _ (by decide : (7 : Nat) ≠ 37)).trans e1, l1, q1, fun h => by rw [ev_ne a _ (by decide : (38 : Nat) ≠ 37), ev_ne a _ (by decide : (42 : Nat) ≠ 37)]; exact k1 h⟩)⟩)
set_option maxHeartbeats 400000 in
theorem stepI6 {Q : Exit → Act → World → Prop} {K : Act → World → Prop} (p0 p1 p2 p3 p4 p5 p6 p7 p8 p9 p10 : String) (a0 : Act) (w0 : World) (g : Nat) (A : Option Addr) (n c : Nat) (zs : List Int) (A2 : Option Addr) (m d : Nat) (ps : List Dat) (hz : 43 < a0.tmps.size) (hg2 : a0.eval (.tmp 2) = .pointer (some ⟨g, 0, none⟩)) (hgl : g < w0.heap.size) (hx0 : w0.cell? ⟨g, 0, none⟩ = some (.slice A n c)) (hx1 : w0.cell? ⟨g, 1, none⟩ = some (.slice A2 m d)) (hs : Sl w0 w0.heap.size A (ints zs)) (hp : Sl w0 w0.heap.size A2 (dats ps)) (hn : zs.length = n) (hm : ps.length = m) (hn2 : n ≤ 1048576) (hm2 : m ≤ 1048576) {b0 b1 b2 b3 b4 b7 b8 b9 b10 : Bool} {a : Act} {w : World}
    (I : InvI a0 w0 g A n c zs A2 m d ps b0 b1 b2 b3 b4 true false b7 b8 b9 b10 a w) (hK : ∀ a' w', InvI a0 w0 g A n c zs A2 m d ps b0 b1 b2 b3 b4 true true b7 b8 b9 b10 a' w' → K a' w') : wpOp Try.prog (opsI p0 p1 p2 p3 p4 p5 p6 p7 p8 p9 p10) Q 6 K a w := by
  refine wpOp_free (x := { dst := some 41, op := .load 26 (.tmp 40), type := 26, pos := p6, after := #[{ on := 5, ground := .data }], guard := none }) rfl rfl ?_
  have e2 := I.s5 rfl
  have e2' := e2; simp only [Act.eval, Array.getD_eq_getD_getElem?] at e2'
  have x0 : w.cell? ⟨g, 1, none⟩ = some (.slice A2 m d) := ((bcell I.bl).1 g 1 hgl).trans hx1
  go_simp
  refine hK (Act.put a (some 41) _) _ (⟨((put_defs a (some 41) _).trans I.df),
      ((put_size a (some 41) _).trans I.sz),
      (fun k hk => (ev_ne a (d := 41) _ (fun e => hk (by subst e; decide))).trans (I.fr k hk)),
      (I.bl),
      (I.c7),
      (I.c8),
      (I.c10),
      (fun h h' => by obtain ⟨A', e1, o1⟩ := I.s0 h h'; exact ⟨A', (ev_ne a _ (by decide : (35 : Nat) ≠ 41)).trans e1, o1⟩),
      (fun h => (ev_ne a _ (by decide : (36 : Nat) ≠ 41)).trans (I.s1 h)),
      (fun h => (ev_ne a _ (by decide : (37 : Nat) ≠ 41)).trans (I.s2 h)),
      (fun h => by obtain ⟨A', c', e1, o1⟩ := I.s3 h; exact ⟨A', c', (ev_ne a _ (by decide : (38 : Nat) ≠ 41)).trans e1, o1⟩),
      (fun h h' => by obtain ⟨A', e1, o1⟩ := I.s4 h h'; exact ⟨A', (ev_ne a _ (by decide : (39 : Nat) ≠ 41)).trans e1, o1⟩),
      (fun h => (ev_ne a _ (by decide : (40 : Nat) ≠ 41)).trans (I.s5 h)),
      (fun _ => ev_eq a _ (show 41 < a.tmps.size by rw [I.sz]; omega)),
      (fun h => by obtain ⟨A', c', e1, o1⟩ := I.s7 h; exact ⟨A', c', (ev_ne a _ (by decide : (42 : Nat) ≠ 41)).trans e1, o1⟩),
      (fun h => by rw [ev_ne a _ (by decide : (43 : Nat) ≠ 41), ev_ne a _ (by decide : (38 : Nat) ≠ 41), ev_ne a _ (by decide : (42 : Nat) ≠ 41)]; exact I.s8 h),
      (fun h => by obtain ⟨h', x, y, e1, l1, q1, k1⟩ := I.s9 h; exact ⟨h', x, y, (ev_ne a _ (by decide : (7 : Nat) ≠ 41)).trans e1, l1, q1, fun h => by rw [ev_ne a _ (by decide : (38 : Nat) ≠ 41), ev_ne a _ (by decide : (42 : Nat) ≠ 41)]; exact k1 h⟩)⟩)
set_option maxHeartbeats 400000 in
theorem stepI0 {Q : Exit → Act → World → Prop} {K : Act → World → Prop} (p0 p1 p2 p3 p4 p5 p6 p7 p8 p9 p10 : String) (a0 : Act) (w0 : World) (g : Nat) (A : Option Addr) (n c : Nat) (zs : List Int) (A2 : Option Addr) (m d : Nat) (ps : List Dat) (hz : 43 < a0.tmps.size) (hg2 : a0.eval (.tmp 2) = .pointer (some ⟨g, 0, none⟩)) (hgl : g < w0.heap.size) (hx0 : w0.cell? ⟨g, 0, none⟩ = some (.slice A n c)) (hx1 : w0.cell? ⟨g, 1, none⟩ = some (.slice A2 m d)) (hs : Sl w0 w0.heap.size A (ints zs)) (hp : Sl w0 w0.heap.size A2 (dats ps)) (hn : zs.length = n) (hm : ps.length = m) (hn2 : n ≤ 1048576) (hm2 : m ≤ 1048576) {b1 b2 b3 b4 b5 b6 b7 b8 b9 b10 : Bool} {a : Act} {w : World}
    (I : InvI a0 w0 g A n c zs A2 m d ps false b1 b2 b3 b4 b5 b6 b7 b8 b9 b10 a w) (hK : ∀ a' w', InvI a0 w0 g A n c zs A2 m d ps true b1 b2 b3 b4 b5 b6 b7 b8 b9 b10 a' w' → K a' w') : wpOp Try.prog (opsI p0 p1 p2 p3 p4 p5 p6 p7 p8 p9 p10) Q 0 K a w := by
  refine wpOp_free (x := { dst := some 35, op := .buildSlice 33 0 #[], type := 33, pos := p0, after := #[], guard := none }) rfl rfl ?_
  have hsz := I.bl.size
  go_simp
  refine hK (Act.put a (some 35) _) _ (⟨((put_defs a (some 35) _).trans I.df),
      ((put_size a (some 35) _).trans I.sz),
      (fun k hk => (ev_ne a (d := 35) _ (fun e => hk (by subst e; decide))).trans (I.fr k hk)),
      (I.bl.alloc hsz _),
      (I.c7),
      (I.c8),
      (I.c10),
      (fun _ _ => ⟨some ⟨w.heap.size, 0, none⟩, ev_eq a _ (show 35 < a.tmps.size by rw [I.sz]; omega), (Own.made w w.heap.size 3 1 #[] 0 (Nat.le_refl _) (by unfold maxLen; omega) rfl).lower hsz⟩),
      (fun h => (ev_ne a _ (by decide : (36 : Nat) ≠ 35)).trans (I.s1 h)),
      (fun h => (ev_ne a _ (by decide : (37 : Nat) ≠ 35)).trans (I.s2 h)),
      (fun h => by obtain ⟨A', c', e1, o1⟩ := I.s3 h; exact ⟨A', c', (ev_ne a _ (by decide : (38 : Nat) ≠ 35)).trans e1, o1.alloc _⟩),
      (fun h h' => by obtain ⟨A', e1, o1⟩ := I.s4 h h'; exact ⟨A', (ev_ne a _ (by decide : (39 : Nat) ≠ 35)).trans e1, o1.alloc _⟩),
      (fun h => (ev_ne a _ (by decide : (40 : Nat) ≠ 35)).trans (I.s5 h)),
      (fun h => (ev_ne a _ (by decide : (41 : Nat) ≠ 35)).trans (I.s6 h)),
      (fun h => by obtain ⟨A', c', e1, o1⟩ := I.s7 h; exact ⟨A', c', (ev_ne a _ (by decide : (42 : Nat) ≠ 35)).trans e1, o1.alloc _⟩),
      (fun h => by rw [ev_ne a _ (by decide : (43 : Nat) ≠ 35), ev_ne a _ (by decide : (38 : Nat) ≠ 35), ev_ne a _ (by decide : (42 : Nat) ≠ 35)]; exact I.s8 h),
      (fun h => by obtain ⟨h', x, y, e1, l1, q1, k1⟩ := I.s9 h; exact ⟨h', x, y, (ev_ne a _ (by decide : (7 : Nat) ≠ 35)).trans e1, l1, q1.alloc _, fun h => by rw [ev_ne a _ (by decide : (38 : Nat) ≠ 35), ev_ne a _ (by decide : (42 : Nat) ≠ 35)]; exact k1 h⟩)⟩)
set_option maxHeartbeats 400000 in
theorem stepI4 {Q : Exit → Act → World → Prop} {K : Act → World → Prop} (p0 p1 p2 p3 p4 p5 p6 p7 p8 p9 p10 : String) (a0 : Act) (w0 : World) (g : Nat) (A : Option Addr) (n c : Nat) (zs : List Int) (A2 : Option Addr) (m d : Nat) (ps : List Dat) (hz : 43 < a0.tmps.size) (hg2 : a0.eval (.tmp 2) = .pointer (some ⟨g, 0, none⟩)) (hgl : g < w0.heap.size) (hx0 : w0.cell? ⟨g, 0, none⟩ = some (.slice A n c)) (hx1 : w0.cell? ⟨g, 1, none⟩ = some (.slice A2 m d)) (hs : Sl w0 w0.heap.size A (ints zs)) (hp : Sl w0 w0.heap.size A2 (dats ps)) (hn : zs.length = n) (hm : ps.length = m) (hn2 : n ≤ 1048576) (hm2 : m ≤ 1048576) {b0 b1 b2 b3 b5 b6 b7 b8 b9 b10 : Bool} {a : Act} {w : World}
    (I : InvI a0 w0 g A n c zs A2 m d ps b0 b1 b2 b3 false b5 b6 b7 b8 b9 b10 a w) (hK : ∀ a' w', InvI a0 w0 g A n c zs A2 m d ps b0 b1 b2 b3 true b5 b6 b7 b8 b9 b10 a' w' → K a' w') : wpOp Try.prog (opsI p0 p1 p2 p3 p4 p5 p6 p7 p8 p9 p10) Q 4 K a w := by
  refine wpOp_free (x := { dst := some 39, op := .buildSlice 26 0 #[], type := 26, pos := p4, after := #[], guard := none }) rfl rfl ?_
  have hsz := I.bl.size
  go_simp
  refine hK (Act.put a (some 39) _) _ (⟨((put_defs a (some 39) _).trans I.df),
      ((put_size a (some 39) _).trans I.sz),
      (fun k hk => (ev_ne a (d := 39) _ (fun e => hk (by subst e; decide))).trans (I.fr k hk)),
      (I.bl.alloc hsz _),
      (I.c7),
      (I.c8),
      (I.c10),
      (fun h h' => by obtain ⟨A', e1, o1⟩ := I.s0 h h'; exact ⟨A', (ev_ne a _ (by decide : (35 : Nat) ≠ 39)).trans e1, o1.alloc _⟩),
      (fun h => (ev_ne a _ (by decide : (36 : Nat) ≠ 39)).trans (I.s1 h)),
      (fun h => (ev_ne a _ (by decide : (37 : Nat) ≠ 39)).trans (I.s2 h)),
      (fun h => by obtain ⟨A', c', e1, o1⟩ := I.s3 h; exact ⟨A', c', (ev_ne a _ (by decide : (38 : Nat) ≠ 39)).trans e1, o1.alloc _⟩),
      (fun _ _ => ⟨some ⟨w.heap.size, 0, none⟩, ev_eq a _ (show 39 < a.tmps.size by rw [I.sz]; omega), (Own.made w w.heap.size 45 7 #[] 0 (Nat.le_refl _) (by unfold maxLen; omega) rfl).lower hsz⟩),
      (fun h => (ev_ne a _ (by decide : (40 : Nat) ≠ 39)).trans (I.s5 h)),
      (fun h => (ev_ne a _ (by decide : (41 : Nat) ≠ 39)).trans (I.s6 h)),
      (fun h => by obtain ⟨A', c', e1, o1⟩ := I.s7 h; exact ⟨A', c', (ev_ne a _ (by decide : (42 : Nat) ≠ 39)).trans e1, o1.alloc _⟩),
      (fun h => by rw [ev_ne a _ (by decide : (43 : Nat) ≠ 39), ev_ne a _ (by decide : (38 : Nat) ≠ 39), ev_ne a _ (by decide : (42 : Nat) ≠ 39)]; exact I.s8 h),
      (fun h => by obtain ⟨h', x, y, e1, l1, q1, k1⟩ := I.s9 h; exact ⟨h', x, y, (ev_ne a _ (by decide : (7 : Nat) ≠ 39)).trans e1, l1, q1.alloc _, fun h => by rw [ev_ne a _ (by decide : (38 : Nat) ≠ 39), ev_ne a _ (by decide : (42 : Nat) ≠ 39)]; exact k1 h⟩)⟩)
set_option maxHeartbeats 400000 in
theorem stepI9 {Q : Exit → Act → World → Prop} {K : Act → World → Prop} (p0 p1 p2 p3 p4 p5 p6 p7 p8 p9 p10 : String) (a0 : Act) (w0 : World) (g : Nat) (A : Option Addr) (n c : Nat) (zs : List Int) (A2 : Option Addr) (m d : Nat) (ps : List Dat) (hz : 43 < a0.tmps.size) (hg2 : a0.eval (.tmp 2) = .pointer (some ⟨g, 0, none⟩)) (hgl : g < w0.heap.size) (hx0 : w0.cell? ⟨g, 0, none⟩ = some (.slice A n c)) (hx1 : w0.cell? ⟨g, 1, none⟩ = some (.slice A2 m d)) (hs : Sl w0 w0.heap.size A (ints zs)) (hp : Sl w0 w0.heap.size A2 (dats ps)) (hn : zs.length = n) (hm : ps.length = m) (hn2 : n ≤ 1048576) (hm2 : m ≤ 1048576) {b0 b1 b2 b3 b4 b5 b6 b7 b8 : Bool} {a : Act} {w : World}
    (I : InvI a0 w0 g A n c zs A2 m d ps b0 b1 b2 b3 b4 b5 b6 b7 b8 false false a w) (hK : ∀ a' w', InvI a0 w0 g A n c zs A2 m d ps b0 b1 b2 b3 b4 b5 b6 b7 b8 true false a' w' → K a' w') : wpOp Try.prog (opsI p0 p1 p2 p3 p4 p5 p6 p7 p8 p9 p10) Q 9 K a w := by
  refine wpOp_free (x := { dst := some 7, op := .alloc 41, type := 0, pos := p9, after := #[], guard := none }) rfl rfl ?_
  have hsz := I.bl.size
  go_simp
  refine hK (Act.put a (some 7) _) _ (⟨((put_defs a (some 7) _).trans I.df),
      ((put_size a (some 7) _).trans I.sz),
      (fun k hk => (ev_ne a (d := 7) _ (fun e => hk (by subst e; decide))).trans (I.fr k hk)),
      (I.bl.alloc hsz _),
      (I.c7),
      (I.c8),
      (fun h => by cases h),
      (fun h h' => by obtain ⟨A', e1, o1⟩ := I.s0 h h'; exact ⟨A', (ev_ne a _ (by decide : (35 : Nat) ≠ 7)).trans e1, o1.alloc _⟩),
      (fun h => (ev_ne a _ (by decide : (36 : Nat) ≠ 7)).trans (I.s1 h)),
      (fun h => (ev_ne a _ (by decide : (37 : Nat) ≠ 7)).trans (I.s2 h)),
      (fun h => by obtain ⟨A', c', e1, o1⟩ := I.s3 h; exact ⟨A', c', (ev_ne a _ (by decide : (38 : Nat) ≠ 7)).trans e1, o1.alloc _⟩),
      (fun h h' => by obtain ⟨A', e1, o1⟩ := I.s4 h h'; exact ⟨A', (ev_ne a _ (by decide : (39 : Nat) ≠ 7)).trans e1, o1.alloc _⟩),
      (fun h => (ev_ne a _ (by decide : (40 : Nat) ≠ 7)).trans (I.s5 h)),
      (fun h => (ev_ne a _ (by decide : (41 : Nat) ≠ 7)).trans (I.s6 h)),
      (fun h => by obtain ⟨A', c', e1, o1⟩ := I.s7 h; exact ⟨A', c', (ev_ne a _ (by decide : (42 : Nat) ≠ 7)).trans e1, o1.alloc _⟩),
      (fun h => by rw [ev_ne a _ (by decide : (43 : Nat) ≠ 7), ev_ne a _ (by decide : (38 : Nat) ≠ 7), ev_ne a _ (by decide : (42 : Nat) ≠ 7)]; exact I.s8 h),
      (fun _ => ⟨w.heap.size, _, _, ev_eq a _ (show 7 < a.tmps.size by rw [I.sz]; omega), hsz, Blk.new w _ _, fun h => by cases h⟩)⟩)
set_option maxHeartbeats 800000 in
theorem stepI3 {Q : Exit → Act → World → Prop} {K : Act → World → Prop} (p0 p1 p2 p3 p4 p5 p6 p7 p8 p9 p10 : String) (a0 : Act) (w0 : World) (g : Nat) (A : Option Addr) (n c : Nat) (zs : List Int) (A2 : Option Addr) (m d : Nat) (ps : List Dat) (hz : 43 < a0.tmps.size) (hg2 : a0.eval (.tmp 2) = .pointer (some ⟨g, 0, none⟩)) (hgl : g < w0.heap.size) (hx0 : w0.cell? ⟨g, 0, none⟩ = some (.slice A n c)) (hx1 : w0.cell? ⟨g, 1, none⟩ = some (.slice A2 m d)) (hs : Sl w0 w0.heap.size A (ints zs)) (hp : Sl w0 w0.heap.size A2 (dats ps)) (hn : zs.length = n) (hm : ps.length = m) (hn2 : n ≤ 1048576) (hm2 : m ≤ 1048576) {b1 b4 b5 b6 b9 : Bool} {a : Act} {w : World}
    (I : InvI a0 w0 g A n c zs A2 m d ps true b1 true false b4 b5 b6 false false b9 false a w) (hK : ∀ a' w', InvI a0 w0 g A n c zs A2 m d ps true b1 true true b4 b5 b6 false false b9 false a' w' → K a' w') : wpOp Try.prog (opsI p0 p1 p2 p3 p4 p5 p6 p7 p8 p9 p10) Q 3 K a w := by
  refine wpOp_free (x := { dst := some 38, op := .call { callee := .builtin .append, args := #[.tmp 35, .tmp 37], argTypes := #[33, 33] }, type := 33, pos := p3, after := #[{ on := 0, ground := .data }, { on := 2, ground := .data }], guard := none }) rfl rfl ?_
  obtain ⟨i0, hi, hz0, hz1, hz2⟩ := info_parts info_int'
  obtain ⟨A', e1, O1⟩ := I.s0 rfl rfl
  have e2 := I.s2 rfl
  have hsz := I.bl.size
  refine wp_app w (.tmp 35) (.tmp 37) _ rfl w0.heap.size 3 i0 (.int .i64 0) 1 8 Try.underlying33 hi hz0 hz1 hz2 rfl (by decide) A' 0 0 [] e1 O1 w0.heap.size A n c (ints zs) e2 (hs.below I.bl (Nat.le_refl _)) (by rw [ints_len, hn, Nat.mul_one]) (ints_ones zs) (by unfold maxLen; omega) (by omega) hsz ?_
  intro A3 c3 row w' o3 g1 r1 d1
  simp only [Nat.zero_add, List.nil_append] at o3 ⊢
  refine hK (Act.put a (some 38) _) _ (⟨((put_defs a (some 38) _).trans I.df),
      ((put_size a (some 38) _).trans I.sz),
      (fun k hk => (ev_ne a (d := 38) _ (fun e => hk (by subst e; decide))).trans (I.fr k hk)),
      (below_at I.bl hsz g1 r1 (fun a ha => (O1.blk a ha).1)),
      (fun _ => rfl),
      (fun h => by cases h),
      (fun h => by cases h),
      (fun _ h => by cases h),
      (fun h => (ev_ne a _ (by decide : (36 : Nat) ≠ 38)).trans (I.s1 h)),
      (fun h => (ev_ne a _ (by decide : (37 : Nat) ≠ 38)).trans (I.s2 h)),
      (fun _ => ⟨A3, c3, ev_eq a _ (show 38 < a.tmps.size by rw [I.sz]; omega), o3⟩),
      (fun h h' => by obtain ⟨A', e1, o1⟩ := I.s4 h h'; exact ⟨A', (ev_ne a _ (by decide : (39 : Nat) ≠ 38)).trans e1, own_held o1 O1 (by decide) g1 r1⟩),
      (fun h => (ev_ne a _ (by decide : (40 : Nat) ≠ 38)).trans (I.s5 h)),
      (fun h => (ev_ne a _ (by decide : (41 : Nat) ≠ 38)).trans (I.s6 h)),
      (fun h => by obtain ⟨A', c', e1, o1⟩ := I.s7 h; exact ⟨A', c', (ev_ne a _ (by decide : (42 : Nat) ≠ 38)).trans e1, own_held o1 O1 (by decide) g1 r1⟩),
      (fun h => by cases h),
      (fun h => by obtain ⟨h', x, y, e1, l1, q1, _⟩ := I.s9 h; exact ⟨h', x, y, (ev_ne a _ (by decide : (7 : Nat) ≠ 38)).trans e1, l1, blk_held q1 O1 (by decide) g1 r1, fun h => by cases h⟩)⟩)
set_option maxHeartbeats 800000 in
theorem stepI7 {Q : Exit → Act → World → Prop} {K : Act → World → Prop} (p0 p1 p2 p3 p4 p5 p6 p7 p8 p9 p10 : String) (a0 : Act) (w0 : World) (g : Nat) (A : Option Addr) (n c : Nat) (zs : List Int) (A2 : Option Addr) (m d : Nat) (ps : List Dat) (hz : 43 < a0.tmps.size) (hg2 : a0.eval (.tmp 2) = .pointer (some ⟨g, 0, none⟩)) (hgl : g < w0.heap.size) (hx0 : w0.cell? ⟨g, 0, none⟩ = some (.slice A n c)) (hx1 : w0.cell? ⟨g, 1, none⟩ = some (.slice A2 m d)) (hs : Sl w0 w0.heap.size A (ints zs)) (hp : Sl w0 w0.heap.size A2 (dats ps)) (hn : zs.length = n) (hm : ps.length = m) (hn2 : n ≤ 1048576) (hm2 : m ≤ 1048576) {b0 b1 b2 b5 b9 : Bool} {a : Act} {w : World}
    (I : InvI a0 w0 g A n c zs A2 m d ps b0 b1 b2 true true b5 true false false b9 false a w) (hK : ∀ a' w', InvI a0 w0 g A n c zs A2 m d ps b0 b1 b2 true true b5 true true false b9 false a' w' → K a' w') : wpOp Try.prog (opsI p0 p1 p2 p3 p4 p5 p6 p7 p8 p9 p10) Q 7 K a w := by
  refine wpOp_free (x := { dst := some 42, op := .call { callee := .builtin .append, args := #[.tmp 39, .tmp 41], argTypes := #[26, 26] }, type := 26, pos := p7, after := #[{ on := 4, ground := .data }, { on := 6, ground := .data }, { on := 3, ground := .chain }], guard := none }) rfl rfl ?_
  obtain ⟨i0, hi, hz0, hz1, hz2⟩ := info_parts info_data
  obtain ⟨A', e1, O1⟩ := I.s4 rfl rfl
  have e2 := I.s6 rfl
  have hsz := I.bl.size
  refine wp_app w (.tmp 39) (.tmp 41) _ rfl w0.heap.size 45 i0 (.agg #[.int .i64 0, .int .i64 0, .int .i64 0, .bool false, .bool false, .bool false, .string ⟨#[]⟩]) 7 48 Try.underlying26 hi hz0 hz1 hz2 rfl (by decide) A' 0 0 [] e1 O1 w0.heap.size A2 m d (dats ps) e2 (hp.below I.bl (Nat.le_refl _)) (by rw [dats_len, hm]) (dats_one ps) (by unfold maxLen; omega) (by omega) hsz ?_
  intro A3 c3 row w' o3 g1 r1 d1
  simp only [Nat.zero_add, List.nil_append] at o3 ⊢
  refine hK (Act.put a (some 42) _) _ (⟨((put_defs a (some 42) _).trans I.df),
      ((put_size a (some 42) _).trans I.sz),
      (fun k hk => (ev_ne a (d := 42) _ (fun e => hk (by subst e; decide))).trans (I.fr k hk)),
      (below_at I.bl hsz g1 r1 (fun a ha => (O1.blk a ha).1)),
      (fun _ => rfl),
      (fun _ => rfl),
      (fun h => by cases h),
      (fun h h' => by obtain ⟨A', e1, o1⟩ := I.s0 h h'; exact ⟨A', (ev_ne a _ (by decide : (35 : Nat) ≠ 42)).trans e1, own_held o1 O1 (by decide) g1 r1⟩),
      (fun h => (ev_ne a _ (by decide : (36 : Nat) ≠ 42)).trans (I.s1 h)),
      (fun h => (ev_ne a _ (by decide : (37 : Nat) ≠ 42)).trans (I.s2 h)),
      (fun h => by obtain ⟨A', c', e1, o1⟩ := I.s3 h; exact ⟨A', c', (ev_ne a _ (by decide : (38 : Nat) ≠ 42)).trans e1, own_held o1 O1 (by decide) g1 r1⟩),
      (fun _ h => by cases h),
      (fun h => (ev_ne a _ (by decide : (40 : Nat) ≠ 42)).trans (I.s5 h)),
      (fun h => (ev_ne a _ (by decide : (41 : Nat) ≠ 42)).trans (I.s6 h)),
      (fun _ => ⟨A3, c3, ev_eq a _ (show 42 < a.tmps.size by rw [I.sz]; omega), o3⟩),
      (fun h => by cases h),
      (fun h => by obtain ⟨h', x, y, e1, l1, q1, _⟩ := I.s9 h; exact ⟨h', x, y, (ev_ne a _ (by decide : (7 : Nat) ≠ 42)).trans e1, l1, blk_held q1 O1 (by decide) g1 r1, fun h => by cases h⟩)⟩)
set_option maxHeartbeats 400000 in
theorem stepI8 {Q : Exit → Act → World → Prop} {K : Act → World → Prop} (p0 p1 p2 p3 p4 p5 p6 p7 p8 p9 p10 : String) (a0 : Act) (w0 : World) (g : Nat) (A : Option Addr) (n c : Nat) (zs : List Int) (A2 : Option Addr) (m d : Nat) (ps : List Dat) (hz : 43 < a0.tmps.size) (hg2 : a0.eval (.tmp 2) = .pointer (some ⟨g, 0, none⟩)) (hgl : g < w0.heap.size) (hx0 : w0.cell? ⟨g, 0, none⟩ = some (.slice A n c)) (hx1 : w0.cell? ⟨g, 1, none⟩ = some (.slice A2 m d)) (hs : Sl w0 w0.heap.size A (ints zs)) (hp : Sl w0 w0.heap.size A2 (dats ps)) (hn : zs.length = n) (hm : ps.length = m) (hn2 : n ≤ 1048576) (hm2 : m ≤ 1048576) {b0 b1 b2 b4 b5 b6 b9 : Bool} {a : Act} {w : World}
    (I : InvI a0 w0 g A n c zs A2 m d ps b0 b1 b2 true b4 b5 b6 true false b9 false a w) (hK : ∀ a' w', InvI a0 w0 g A n c zs A2 m d ps b0 b1 b2 true b4 b5 b6 true true b9 false a' w' → K a' w') : wpOp Try.prog (opsI p0 p1 p2 p3 p4 p5 p6 p7 p8 p9 p10) Q 8 K a w := by
  refine wpOp_free (x := { dst := some 43, op := .build 41 #[(0, .tmp 38), (1, .tmp 42)], type := 41, pos := p8, after := #[{ on := 3, ground := .data }, { on := 7, ground := .data }], guard := none }) rfl rfl ?_
  obtain ⟨A1, c1, e1, _⟩ := I.s3 rfl
  obtain ⟨A3, c3, e3, _⟩ := I.s7 rfl
  have e1' := e1; simp only [Act.eval, Array.getD_eq_getD_getElem?] at e1'
  have e3' := e3; simp only [Act.eval, Array.getD_eq_getD_getElem?] at e3'
  go_simp
  refine hK (Act.put a (some 43) _) _ (⟨((put_defs a (some 43) _).trans I.df),
      ((put_size a (some 43) _).trans I.sz),
      (fun k hk => (ev_ne a (d := 43) _ (fun e => hk (by subst e; decide))).trans (I.fr k hk)),
      (I.bl),
      (I.c7),
      (fun _ => rfl),
      (fun h => by cases h),
      (fun h h' => by obtain ⟨A', e1, o1⟩ := I.s0 h h'; exact ⟨A', (ev_ne a _ (by decide : (35 : Nat) ≠ 43)).trans e1, o1⟩),
      (fun h => (ev_ne a _ (by decide : (36 : Nat) ≠ 43)).trans (I.s1 h)),
      (fun h => (ev_ne a _ (by decide : (37 : Nat) ≠ 43)).trans (I.s2 h)),
      (fun h => by obtain ⟨A', c', e1, o1⟩ := I.s3 h; exact ⟨A', c', (ev_ne a _ (by decide : (38 : Nat) ≠ 43)).trans e1, o1⟩),
      (fun h h' => by obtain ⟨A', e1, o1⟩ := I.s4 h h'; exact ⟨A', (ev_ne a _ (by decide : (39 : Nat) ≠ 43)).trans e1, o1⟩),
      (fun h => (ev_ne a _ (by decide : (40 : Nat) ≠ 43)).trans (I.s5 h)),
      (fun h => (ev_ne a _ (by decide : (41 : Nat) ≠ 43)).trans (I.s6 h)),
      (fun h => by obtain ⟨A', c', e1, o1⟩ := I.s7 h; exact ⟨A', c', (ev_ne a _ (by decide : (42 : Nat) ≠ 43)).trans e1, o1⟩),
      (fun _ => by rw [ev_ne a _ (by decide : (38 : Nat) ≠ 43), ev_ne a _ (by decide : (42 : Nat) ≠ 43), e1, e3]; exact ev_eq a _ (show 43 < a.tmps.size by rw [I.sz]; omega)),
      (fun h => by obtain ⟨h', x, y, e1, l1, q1, k1⟩ := I.s9 h; exact ⟨h', x, y, (ev_ne a _ (by decide : (7 : Nat) ≠ 43)).trans e1, l1, q1, fun h => by rw [ev_ne a _ (by decide : (38 : Nat) ≠ 43), ev_ne a _ (by decide : (42 : Nat) ≠ 43)]; exact k1 h⟩)⟩)
set_option maxHeartbeats 800000 in
theorem stepI10 {Q : Exit → Act → World → Prop} {K : Act → World → Prop} (p0 p1 p2 p3 p4 p5 p6 p7 p8 p9 p10 : String) (a0 : Act) (w0 : World) (g : Nat) (A : Option Addr) (n c : Nat) (zs : List Int) (A2 : Option Addr) (m d : Nat) (ps : List Dat) (hz : 43 < a0.tmps.size) (hg2 : a0.eval (.tmp 2) = .pointer (some ⟨g, 0, none⟩)) (hgl : g < w0.heap.size) (hx0 : w0.cell? ⟨g, 0, none⟩ = some (.slice A n c)) (hx1 : w0.cell? ⟨g, 1, none⟩ = some (.slice A2 m d)) (hs : Sl w0 w0.heap.size A (ints zs)) (hp : Sl w0 w0.heap.size A2 (dats ps)) (hn : zs.length = n) (hm : ps.length = m) (hn2 : n ≤ 1048576) (hm2 : m ≤ 1048576) {a : Act} {w : World}
    (I : InvI a0 w0 g A n c zs A2 m d ps true true true true true true true true true true false a w) (hK : ∀ a' w', InvI a0 w0 g A n c zs A2 m d ps true true true true true true true true true true true a' w' → K a' w') : wpOp Try.prog (opsI p0 p1 p2 p3 p4 p5 p6 p7 p8 p9 p10) Q 10 K a w := by
  refine wpOp_free (x := { dst := none, op := .store 41 (.tmp 7) (.tmp 43), type := 0, pos := p10, after := #[{ on := 9, ground := .data }, { on := 8, ground := .data }, { on := 7, ground := .chain }, { on := 0, ground := .phase }, { on := 1, ground := .phase }, { on := 2, ground := .phase }, { on := 3, ground := .phase }, { on := 4, ground := .phase }, { on := 5, ground := .phase }, { on := 6, ground := .phase }, { on := 7, ground := .phase }, { on := 8, ground := .phase }, { on := 9, ground := .phase }], guard := none }) rfl rfl ?_
  obtain ⟨h, x, y, e1, l1, q1, _⟩ := I.s9 rfl
  obtain ⟨A1, c1, e3, o3⟩ := I.s3 rfl
  obtain ⟨A3, c3, e7, o7⟩ := I.s7 rfl
  have e8 := I.s8 rfl
  rw [e3, e7] at e8
  have x0 : w.cell? ⟨h, 0, none⟩ = some x := q1.get 0 rfl
  have x1 : w.cell? ⟨h, 1, none⟩ = some y := q1.get 1 rfl
  have f0 := q1.frozen 0
  have f1 := q1.frozen 1
  have hl := q1.lt
  have e1' := e1; simp only [Act.eval, Array.getD_eq_getD_getElem?] at e1'
  have e8' := e8; simp only [Act.eval, Array.getD_eq_getD_getElem?] at e8'
  go_simp
  refine hK _ _ (⟨(I.df),
      (I.sz),
      (I.fr),
      ((I.bl.setCell l1 _).setCell l1 _),
      (I.c7),
      (I.c8),
      (fun _ => ⟨rfl, rfl⟩),
      (fun h h' => by obtain ⟨A', e1, o1⟩ := I.s0 h h'; exact ⟨A', e1, own_far (own_far o1 q1 (by decide) 0 _) (q1.set_ 0 _) (by decide) 1 _⟩),
      (fun h => (I.s1 h)),
      (fun h => (I.s2 h)),
      (fun h => by obtain ⟨A', c', e1, o1⟩ := I.s3 h; exact ⟨A', c', e1, own_far (own_far o1 q1 (by decide) 0 _) (q1.set_ 0 _) (by decide) 1 _⟩),
      (fun h h' => by obtain ⟨A', e1, o1⟩ := I.s4 h h'; exact ⟨A', e1, own_far (own_far o1 q1 (by decide) 0 _) (q1.set_ 0 _) (by decide) 1 _⟩),
      (fun h => (I.s5 h)),
      (fun h => (I.s6 h)),
      (fun h => by obtain ⟨A', c', e1, o1⟩ := I.s7 h; exact ⟨A', c', e1, own_far (own_far o1 q1 (by decide) 0 _) (q1.set_ 0 _) (by decide) 1 _⟩),
      (I.s8),
      (fun _ => ⟨h, _, _, e1, l1, by have q2 := (q1.set_ 0 (.slice A1 n c1)).set_ 1 (.slice A3 m c3); simpa using q2, fun _ => ⟨e3.symm, e7.symm⟩⟩)⟩)
set_option maxHeartbeats 800000 in
theorem endI {Q : Exit → Act → World → Prop} (a0 : Act) (w0 : World) (g : Nat) (A : Option Addr) (n c : Nat) (zs : List Int) (A2 : Option Addr) (m d : Nat) (ps : List Dat) (hz : 43 < a0.tmps.size) (hg2 : a0.eval (.tmp 2) = .pointer (some ⟨g, 0, none⟩)) (hgl : g < w0.heap.size) (hx0 : w0.cell? ⟨g, 0, none⟩ = some (.slice A n c)) (hx1 : w0.cell? ⟨g, 1, none⟩ = some (.slice A2 m d)) (hs : Sl w0 w0.heap.size A (ints zs)) (hp : Sl w0 w0.heap.size A2 (dats ps)) (hn : zs.length = n) (hm : ps.length = m) (hn2 : n ≤ 1048576) (hm2 : m ≤ 1048576) {a : Act} {w : World} (I : InvI a0 w0 g A n c zs A2 m d ps true true true true true true true true true true true a w)
    (hQ : ∀ (v0 v1 v2 v4 v5 v6 v8 : Value) (A1 : Option Addr) (c1 : Nat) (A3 : Option Addr) (c3 h : Nat) (w' : World), Own w' w0.heap.size 3 1 A1 n c1 (ints zs) → Own w' w0.heap.size 45 7 A3 m c3 (dats ps) → w0.heap.size ≤ h → Blk w' h #[.slice A1 n c1, .slice A3 m c3] 41 → Below w0.heap.size w0 w' → Q .normal (Act.put (Act.put (Act.put (Act.put (Act.put (Act.put (Act.put (Act.put (Act.put (Act.put a0 (some 35) v0) (some 36) v1) (some 37) v2) (some 38) (.slice A1 n c1)) (some 39) v4) (some 40) v5) (some 41) v6) (some 42) (.slice A3 m c3)) (some 43) v8) (some 7) (.pointer (some ⟨h, 0, none⟩))) w') : Q .normal a w := by
  obtain ⟨A1, c1, e3, o3⟩ := I.s3 rfl
  obtain ⟨A3, c3, e7, o7⟩ := I.s7 rfl
  obtain ⟨h, x, y, e9, l9, q9, k9⟩ := I.s9 rfl
  obtain ⟨rfl, rfl⟩ := k9 rfl
  rw [e3, e7] at q9
  have H := hQ (a.eval (.tmp 35)) (a.eval (.tmp 36)) (a.eval (.tmp 37)) (a.eval (.tmp 39)) (a.eval (.tmp 40)) (a.eval (.tmp 41)) (a.eval (.tmp 43)) A1 c1 A3 c3 h w o3 o7 l9 q9 I.bl
  have hact : (Act.put (Act.put (Act.put (Act.put (Act.put (Act.put (Act.put (Act.put (Act.put (Act.put a0 (some 35) (a.eval (.tmp 35))) (some 36) (a.eval (.tmp 36))) (some 37) (a.eval (.tmp 37))) (some 38) (.slice A1 n c1)) (some 39) (a.eval (.tmp 39))) (some 40) (a.eval (.tmp 40))) (some 41) (a.eval (.tmp 41))) (some 42) (.slice A3 m c3)) (some 43) (a.eval (.tmp 43))) (some 7) (.pointer (some ⟨h, 0, none⟩))) = a := by
    refine act_ext ?_ ?_ fun k hk => ?_
    · simp only [put_size]; exact I.sz.symm
    · simp only [put_defs]; exact I.df.symm
    by_cases h9 : k = 7
    · subst h9
      rw [ev_eq _ _ (by (try simp only [put_size]); omega)]; exact e9.symm
    rw [ev_ne _ _ h9]
    by_cases h8 : k = 43
    · subst h8
      rw [ev_eq _ _ (by (try simp only [put_size]); omega)]
    rw [ev_ne _ _ h8]
    by_cases h7 : k = 42
    · subst h7
      rw [ev_eq _ _ (by (try simp only [put_size]); omega)]; exact e7.symm
    rw [ev_ne _ _ h7]
    by_cases h6 : k = 41
    · subst h6
      rw [ev_eq _ _ (by (try simp only [put_size]); omega)]
    rw [ev_ne _ _ h6]
    by_cases h5 : k = 40
    · subst h5
      rw [ev_eq _ _ (by (try simp only [put_size]); omega)]
    rw [ev_ne _ _ h5]
    by_cases h4 : k = 39
    · subst h4
      rw [ev_eq _ _ (by (try simp only [put_size]); omega)]
    rw [ev_ne _ _ h4]
    by_cases h3 : k = 38
    · subst h3
      rw [ev_eq _ _ (by (try simp only [put_size]); omega)]; exact e3.symm
    rw [ev_ne _ _ h3]
    by_cases h2 : k = 37
    · subst h2
      rw [ev_eq _ _ (by (try simp only [put_size]); omega)]
    rw [ev_ne _ _ h2]
    by_cases h1 : k = 36
    · subst h1
      rw [ev_eq _ _ (by (try simp only [put_size]); omega)]
    rw [ev_ne _ _ h1]
    by_cases h0 : k = 35
    · subst h0
      rw [ev_eq _ _ (by (try simp only [put_size]); omega)]
    rw [ev_ne _ _ h0]
    exact (I.fr k (by simp only [List.mem_cons, List.not_mem_nil, or_false, not_or]; exact ⟨h0, h1, h2, h3, h4, h5, h6, h7, h8, h9⟩)).symm
  rw [hact] at H
  exact H
set_option maxHeartbeats 3200000 in
theorem anyI {Q : Exit → Act → World → Prop} (p0 p1 p2 p3 p4 p5 p6 p7 p8 p9 p10 : String) (a0 : Act) (w0 : World) (g : Nat) (A : Option Addr) (n c : Nat) (zs : List Int) (A2 : Option Addr) (m d : Nat) (ps : List Dat) (hz : 43 < a0.tmps.size) (hg2 : a0.eval (.tmp 2) = .pointer (some ⟨g, 0, none⟩)) (hgl : g < w0.heap.size) (hx0 : w0.cell? ⟨g, 0, none⟩ = some (.slice A n c)) (hx1 : w0.cell? ⟨g, 1, none⟩ = some (.slice A2 m d)) (hs : Sl w0 w0.heap.size A (ints zs)) (hp : Sl w0 w0.heap.size A2 (dats ps)) (hn : zs.length = n) (hm : ps.length = m) (hn2 : n ≤ 1048576) (hm2 : m ≤ 1048576)
    (hQ : ∀ (v0 v1 v2 v4 v5 v6 v8 : Value) (A1 : Option Addr) (c1 : Nat) (A3 : Option Addr) (c3 h : Nat) (w' : World), Own w' w0.heap.size 3 1 A1 n c1 (ints zs) → Own w' w0.heap.size 45 7 A3 m c3 (dats ps) → w0.heap.size ≤ h → Blk w' h #[.slice A1 n c1, .slice A3 m c3] 41 → Below w0.heap.size w0 w' → Q .normal (Act.put (Act.put (Act.put (Act.put (Act.put (Act.put (Act.put (Act.put (Act.put (Act.put a0 (some 35) v0) (some 36) v1) (some 37) v2) (some 38) (.slice A1 n c1)) (some 39) v4) (some 40) v5) (some 41) v6) (some 42) (.slice A3 m c3)) (some 43) v8) (some 7) (.pointer (some ⟨h, 0, none⟩))) w') :
    ∀ (fuel : Nat) (b0 b1 b2 b3 b4 b5 b6 b7 b8 b9 b10 : Bool) (a : Act) (w : World), 11 ≤ fuel + (b0.toNat + b1.toNat + b2.toNat + b3.toNat + b4.toNat + b5.toNat + b6.toNat + b7.toNat + b8.toNat + b9.toNat + b10.toNat) → InvI a0 w0 g A n c zs A2 m d ps b0 b1 b2 b3 b4 b5 b6 b7 b8 b9 b10 a w → wpAny Try.prog .any (opsI p0 p1 p2 p3 p4 p5 p6 p7 p8 p9 p10) Q fuel #[b0, b1, b2, b3, b4, b5, b6, b7, b8, b9, b10] a w
  | 0, b0, b1, b2, b3, b4, b5, b6, b7, b8, b9, b10, a, w, hc, I => by
    have k0 := Bool.toNat_le b0
    have k1 := Bool.toNat_le b1
    have k2 := Bool.toNat_le b2
    have k3 := Bool.toNat_le b3
    have k4 := Bool.toNat_le b4
    have k5 := Bool.toNat_le b5
    have k6 := Bool.toNat_le b6
    have k7 := Bool.toNat_le b7
    have k8 := Bool.toNat_le b8
    have k9 := Bool.toNat_le b9
    have k10 := Bool.toNat_le b10
    have t0 : b0 = true := by cases b0 <;> first | rfl | (exfalso; simp only [Bool.toNat_false] at hc; omega)
    have t1 : b1 = true := by cases b1 <;> first | rfl | (exfalso; simp only [Bool.toNat_false] at hc; omega)
    have t2 : b2 = true := by cases b2 <;> first | rfl | (exfalso; simp only [Bool.toNat_false] at hc; omega)
    have t3 : b3 = true := by cases b3 <;> first | rfl | (exfalso; simp only [Bool.toNat_false] at hc; omega)
    have t4 : b4 = true := by cases b4 <;> first | rfl | (exfalso; simp only [Bool.toNat_false] at hc; omega)
    have t5 : b5 = true := by cases b5 <;> first | rfl | (exfalso; simp only [Bool.toNat_false] at hc; omega)
    have t6 : b6 = true := by cases b6 <;> first | rfl | (exfalso; simp only [Bool.toNat_false] at hc; omega)
    have t7 : b7 = true := by cases b7 <;> first | rfl | (exfalso; simp only [Bool.toNat_false] at hc; omega)
    have t8 : b8 = true := by cases b8 <;> first | rfl | (exfalso; simp only [Bool.toNat_false] at hc; omega)
    have t9 : b9 = true := by cases b9 <;> first | rfl | (exfalso; simp only [Bool.toNat_false] at hc; omega)
    have t10 : b10 = true := by cases b10 <;> first | rfl | (exfalso; simp only [Bool.toNat_false] at hc; omega)
    subst t0 t1 t2 t3 t4 t5 t6 t7 t8 t9 t10
    exact ⟨by rfl, endI a0 w0 g A n c zs A2 m d ps hz hg2 hgl hx0 hx1 hs hp hn hm hn2 hm2 I hQ⟩
  | fuel + 1, b0, b1, b2, b3, b4, b5, b6, b7, b8, b9, b10, a, w, hc, I => by
    refine ⟨fun hr => ?_, fun i hi => ?_⟩
    · have no : ∀ i, i ∉ Region.ready .any (opsI p0 p1 p2 p3 p4 p5 p6 p7 p8 p9 p10) #[b0, b1, b2, b3, b4, b5, b6, b7, b8, b9, b10] := fun i h => by rw [hr] at h; cases h
      obtain rfl : b0 = true := by
        cases b0 with
        | true => rfl
        | false => exact absurd (mem_ready.2 ⟨rfl, _, rfl, by simp [opsI]⟩) (no 0)
      obtain rfl : b1 = true := by
        cases b1 with
        | true => rfl
        | false => exact absurd (mem_ready.2 ⟨rfl, _, rfl, by simp [opsI]⟩) (no 1)
      obtain rfl : b4 = true := by
        cases b4 with
        | true => rfl
        | false => exact absurd (mem_ready.2 ⟨rfl, _, rfl, by simp [opsI]⟩) (no 4)
      obtain rfl : b5 = true := by
        cases b5 with
        | true => rfl
        | false => exact absurd (mem_ready.2 ⟨rfl, _, rfl, by simp [opsI]⟩) (no 5)
      obtain rfl : b9 = true := by
        cases b9 with
        | true => rfl
        | false => exact absurd (mem_ready.2 ⟨rfl, _, rfl, by simp [opsI]⟩) (no 9)
      obtain rfl : b2 = true := by
        cases b2 with
        | true => rfl
        | false => exact absurd (mem_ready.2 ⟨rfl, _, rfl, by simp [opsI]⟩) (no 2)
      obtain rfl : b6 = true := by
        cases b6 with
        | true => rfl
        | false => exact absurd (mem_ready.2 ⟨rfl, _, rfl, by simp [opsI]⟩) (no 6)
      obtain rfl : b3 = true := by
        cases b3 with
        | true => rfl
        | false => exact absurd (mem_ready.2 ⟨rfl, _, rfl, by simp [opsI]⟩) (no 3)
      obtain rfl : b7 = true := by
        cases b7 with
        | true => rfl
        | false => exact absurd (mem_ready.2 ⟨rfl, _, rfl, by simp [opsI]⟩) (no 7)
      obtain rfl : b8 = true := by
        cases b8 with
        | true => rfl
        | false => exact absurd (mem_ready.2 ⟨rfl, _, rfl, by simp [opsI]⟩) (no 8)
      obtain rfl : b10 = true := by
        cases b10 with
        | true => rfl
        | false => exact absurd (mem_ready.2 ⟨rfl, _, rfl, by simp [opsI]⟩) (no 10)
      exact endI a0 w0 g A n c zs A2 m d ps hz hg2 hgl hx0 hx1 hs hp hn hm hn2 hm2 I hQ
    · obtain ⟨h1, x, h2, h3⟩ := mem_ready.1 hi
      have hlt : i < 11 := (Array.getElem?_eq_some_iff.1 h2).1
      rcases (by omega : i = 0 ∨ i = 1 ∨ i = 2 ∨ i = 3 ∨ i = 4 ∨ i = 5 ∨ i = 6 ∨ i = 7 ∨ i = 8 ∨ i = 9 ∨ i = 10) with rfl | rfl | rfl | rfl | rfl | rfl | rfl | rfl | rfl | rfl | rfl
      · obtain rfl : b0 = false := h1
        injection h2 with h2
        subst h2
        exact stepI0 p0 p1 p2 p3 p4 p5 p6 p7 p8 p9 p10 a0 w0 g A n c zs A2 m d ps hz hg2 hgl hx0 hx1 hs hp hn hm hn2 hm2 I (fun a' w' I' => anyI p0 p1 p2 p3 p4 p5 p6 p7 p8 p9 p10 a0 w0 g A n c zs A2 m d ps hz hg2 hgl hx0 hx1 hs hp hn hm hn2 hm2 hQ fuel true _ _ _ _ _ _ _ _ _ _ a' w' (by simp only [Bool.toNat_false, Bool.toNat_true] at hc ⊢; omega) I')
      · obtain rfl : b1 = false := h1
        injection h2 with h2
        subst h2
        exact stepI1 p0 p1 p2 p3 p4 p5 p6 p7 p8 p9 p10 a0 w0 g A n c zs A2 m d ps hz hg2 hgl hx0 hx1 hs hp hn hm hn2 hm2 I (fun a' w' I' => anyI p0 p1 p2 p3 p4 p5 p6 p7 p8 p9 p10 a0 w0 g A n c zs A2 m d ps hz hg2 hgl hx0 hx1 hs hp hn hm hn2 hm2 hQ fuel _ true _ _ _ _ _ _ _ _ _ a' w' (by simp only [Bool.toNat_false, Bool.toNat_true] at hc ⊢; omega) I')
      · obtain rfl : b2 = false := h1
        injection h2 with h2
        subst h2
        obtain rfl : b1 = true := by have := h3 _ (Array.mem_of_getElem? (i := 0) rfl) rfl; exact this
        exact stepI2 p0 p1 p2 p3 p4 p5 p6 p7 p8 p9 p10 a0 w0 g A n c zs A2 m d ps hz hg2 hgl hx0 hx1 hs hp hn hm hn2 hm2 I (fun a' w' I' => anyI p0 p1 p2 p3 p4 p5 p6 p7 p8 p9 p10 a0 w0 g A n c zs A2 m d ps hz hg2 hgl hx0 hx1 hs hp hn hm hn2 hm2 hQ fuel _ true true _ _ _ _ _ _ _ _ a' w' (by simp only [Bool.toNat_false, Bool.toNat_true] at hc ⊢; omega) I')
      · obtain rfl : b3 = false := h1
        injection h2 with h2
        subst h2
        obtain rfl : b0 = true := by have := h3 _ (Array.mem_of_getElem? (i := 0) rfl) rfl; exact this
        obtain rfl : b2 = true := by have := h3 _ (Array.mem_of_getElem? (i := 1) rfl) rfl; exact this
        obtain rfl : b7 = false := by
          cases b7 with
          | false => rfl
          | true => exact nomatch (I.c7 rfl)
        obtain rfl : b8 = false := by
          cases b8 with
          | false => rfl
          | true => exact nomatch (I.c8 rfl)
        obtain rfl : b10 = false := by
          cases b10 with
          | false => rfl
          | true => exact nomatch ((I.c10 rfl).1)
        exact stepI3 p0 p1 p2 p3 p4 p5 p6 p7 p8 p9 p10 a0 w0 g A n c zs A2 m d ps hz hg2 hgl hx0 hx1 hs hp hn hm hn2 hm2 I (fun a' w' I' => anyI p0 p1 p2 p3 p4 p5 p6 p7 p8 p9 p10 a0 w0 g A n c zs A2 m d ps hz hg2 hgl hx0 hx1 hs hp hn hm hn2 hm2 hQ fuel true _ true true _ _ _ _ _ _ _ a' w' (by simp only [Bool.toNat_false, Bool.toNat_true] at hc ⊢; omega) I')
      · obtain rfl : b4 = false := h1
        injection h2 with h2
        subst h2
        exact stepI4 p0 p1 p2 p3 p4 p5 p6 p7 p8 p9 p10 a0 w0 g A n c zs A2 m d ps hz hg2 hgl hx0 hx1 hs hp hn hm hn2 hm2 I (fun a' w' I' => anyI p0 p1 p2 p3 p4 p5 p6 p7 p8 p9 p10 a0 w0 g A n c zs A2 m d ps hz hg2 hgl hx0 hx1 hs hp hn hm hn2 hm2 hQ fuel _ _ _ _ true _ _ _ _ _ _ a' w' (by simp only [Bool.toNat_false, Bool.toNat_true] at hc ⊢; omega) I')
      · obtain rfl : b5 = false := h1
        injection h2 with h2
        subst h2
        exact stepI5 p0 p1 p2 p3 p4 p5 p6 p7 p8 p9 p10 a0 w0 g A n c zs A2 m d ps hz hg2 hgl hx0 hx1 hs hp hn hm hn2 hm2 I (fun a' w' I' => anyI p0 p1 p2 p3 p4 p5 p6 p7 p8 p9 p10 a0 w0 g A n c zs A2 m d ps hz hg2 hgl hx0 hx1 hs hp hn hm hn2 hm2 hQ fuel _ _ _ _ _ true _ _ _ _ _ a' w' (by simp only [Bool.toNat_false, Bool.toNat_true] at hc ⊢; omega) I')
      · obtain rfl : b6 = false := h1
        injection h2 with h2
        subst h2
        obtain rfl : b5 = true := by have := h3 _ (Array.mem_of_getElem? (i := 0) rfl) rfl; exact this
        exact stepI6 p0 p1 p2 p3 p4 p5 p6 p7 p8 p9 p10 a0 w0 g A n c zs A2 m d ps hz hg2 hgl hx0 hx1 hs hp hn hm hn2 hm2 I (fun a' w' I' => anyI p0 p1 p2 p3 p4 p5 p6 p7 p8 p9 p10 a0 w0 g A n c zs A2 m d ps hz hg2 hgl hx0 hx1 hs hp hn hm hn2 hm2 hQ fuel _ _ _ _ _ true true _ _ _ _ a' w' (by simp only [Bool.toNat_false, Bool.toNat_true] at hc ⊢; omega) I')
      · obtain rfl : b7 = false := h1
        injection h2 with h2
        subst h2
        obtain rfl : b4 = true := by have := h3 _ (Array.mem_of_getElem? (i := 0) rfl) rfl; exact this
        obtain rfl : b6 = true := by have := h3 _ (Array.mem_of_getElem? (i := 1) rfl) rfl; exact this
        obtain rfl : b3 = true := by have := h3 _ (Array.mem_of_getElem? (i := 2) rfl) rfl; exact this
        obtain rfl : b8 = false := by
          cases b8 with
          | false => rfl
          | true => exact nomatch (I.c8 rfl)
        obtain rfl : b10 = false := by
          cases b10 with
          | false => rfl
          | true => exact nomatch ((I.c10 rfl).1)
        exact stepI7 p0 p1 p2 p3 p4 p5 p6 p7 p8 p9 p10 a0 w0 g A n c zs A2 m d ps hz hg2 hgl hx0 hx1 hs hp hn hm hn2 hm2 I (fun a' w' I' => anyI p0 p1 p2 p3 p4 p5 p6 p7 p8 p9 p10 a0 w0 g A n c zs A2 m d ps hz hg2 hgl hx0 hx1 hs hp hn hm hn2 hm2 hQ fuel _ _ _ true true _ true true _ _ _ a' w' (by simp only [Bool.toNat_false, Bool.toNat_true] at hc ⊢; omega) I')
      · obtain rfl : b8 = false := h1
        injection h2 with h2
        subst h2
        obtain rfl : b3 = true := by have := h3 _ (Array.mem_of_getElem? (i := 0) rfl) rfl; exact this
        obtain rfl : b7 = true := by have := h3 _ (Array.mem_of_getElem? (i := 1) rfl) rfl; exact this
        obtain rfl : b10 = false := by
          cases b10 with
          | false => rfl
          | true => exact nomatch ((I.c10 rfl).1)
        exact stepI8 p0 p1 p2 p3 p4 p5 p6 p7 p8 p9 p10 a0 w0 g A n c zs A2 m d ps hz hg2 hgl hx0 hx1 hs hp hn hm hn2 hm2 I (fun a' w' I' => anyI p0 p1 p2 p3 p4 p5 p6 p7 p8 p9 p10 a0 w0 g A n c zs A2 m d ps hz hg2 hgl hx0 hx1 hs hp hn hm hn2 hm2 hQ fuel _ _ _ true _ _ _ true true _ _ a' w' (by simp only [Bool.toNat_false, Bool.toNat_true] at hc ⊢; omega) I')
      · obtain rfl : b9 = false := h1
        injection h2 with h2
        subst h2
        obtain rfl : b10 = false := by
          cases b10 with
          | false => rfl
          | true => exact nomatch ((I.c10 rfl).2)
        exact stepI9 p0 p1 p2 p3 p4 p5 p6 p7 p8 p9 p10 a0 w0 g A n c zs A2 m d ps hz hg2 hgl hx0 hx1 hs hp hn hm hn2 hm2 I (fun a' w' I' => anyI p0 p1 p2 p3 p4 p5 p6 p7 p8 p9 p10 a0 w0 g A n c zs A2 m d ps hz hg2 hgl hx0 hx1 hs hp hn hm hn2 hm2 hQ fuel _ _ _ _ _ _ _ _ _ true _ a' w' (by simp only [Bool.toNat_false, Bool.toNat_true] at hc ⊢; omega) I')
      · obtain rfl : b10 = false := h1
        injection h2 with h2
        subst h2
        obtain rfl : b0 = true := by have := h3 _ (Array.mem_of_getElem? (i := 3) rfl) rfl; exact this
        obtain rfl : b1 = true := by have := h3 _ (Array.mem_of_getElem? (i := 4) rfl) rfl; exact this
        obtain rfl : b2 = true := by have := h3 _ (Array.mem_of_getElem? (i := 5) rfl) rfl; exact this
        obtain rfl : b3 = true := by have := h3 _ (Array.mem_of_getElem? (i := 6) rfl) rfl; exact this
        obtain rfl : b4 = true := by have := h3 _ (Array.mem_of_getElem? (i := 7) rfl) rfl; exact this
        obtain rfl : b5 = true := by have := h3 _ (Array.mem_of_getElem? (i := 8) rfl) rfl; exact this
        obtain rfl : b6 = true := by have := h3 _ (Array.mem_of_getElem? (i := 9) rfl) rfl; exact this
        obtain rfl : b7 = true := by have := h3 _ (Array.mem_of_getElem? (i := 10) rfl) rfl; exact this
        obtain rfl : b8 = true := by have := h3 _ (Array.mem_of_getElem? (i := 11) rfl) rfl; exact this
        obtain rfl : b9 = true := by have := h3 _ (Array.mem_of_getElem? (i := 12) rfl) rfl; exact this
        exact stepI10 p0 p1 p2 p3 p4 p5 p6 p7 p8 p9 p10 a0 w0 g A n c zs A2 m d ps hz hg2 hgl hx0 hx1 hs hp hn hm hn2 hm2 I (fun a' w' I' => anyI p0 p1 p2 p3 p4 p5 p6 p7 p8 p9 p10 a0 w0 g A n c zs A2 m d ps hz hg2 hgl hx0 hx1 hs hp hn hm hn2 hm2 hQ fuel true true true true true true true true true true true a' w' (by simp only [Bool.toNat_false, Bool.toNat_true] at hc ⊢; omega) I')
theorem copyI {Q : Exit → Act → World → Prop} {id : Nat} {p0 p1 p2 p3 p4 p5 p6 p7 p8 p9 p10 : String} (a0 : Act) (w0 : World) (g : Nat) (A : Option Addr) (n c : Nat) (zs : List Int) (A2 : Option Addr) (m d : Nat) (ps : List Dat) (hz : 43 < a0.tmps.size) (hg2 : a0.eval (.tmp 2) = .pointer (some ⟨g, 0, none⟩)) (hgl : g < w0.heap.size) (hx0 : w0.cell? ⟨g, 0, none⟩ = some (.slice A n c)) (hx1 : w0.cell? ⟨g, 1, none⟩ = some (.slice A2 m d)) (hs : Sl w0 w0.heap.size A (ints zs)) (hp : Sl w0 w0.heap.size A2 (dats ps)) (hn : zs.length = n) (hm : ps.length = m) (hn2 : n ≤ 1048576) (hm2 : m ≤ 1048576)
    (hQ : ∀ (v0 v1 v2 v4 v5 v6 v8 : Value) (A1 : Option Addr) (c1 : Nat) (A3 : Option Addr) (c3 h : Nat) (w' : World), Own w' w0.heap.size 3 1 A1 n c1 (ints zs) → Own w' w0.heap.size 45 7 A3 m c3 (dats ps) → w0.heap.size ≤ h → Blk w' h #[.slice A1 n c1, .slice A3 m c3] 41 → Below w0.heap.size w0 w' → Q .normal (Act.put (Act.put (Act.put (Act.put (Act.put (Act.put (Act.put (Act.put (Act.put (Act.put a0 (some 35) v0) (some 36) v1) (some 37) v2) (some 38) (.slice A1 n c1)) (some 39) v4) (some 40) v5) (some 41) v6) (some 42) (.slice A3 m c3)) (some 43) v8) (some 7) (.pointer (some ⟨h, 0, none⟩))) w') :
    (Code.region id (opsI p0 p1 p2 p3 p4 p5 p6 p7 p8 p9 p10) true).wp Try.prog Q a0 w0 := by
  refine wp_region_any (by kernel_rfl) ?_
  exact anyI p0 p1 p2 p3 p4 p5 p6 p7 p8 p9 p10 a0 w0.drew g A n c zs A2 m d ps hz hg2 hgl hx0 hx1 hs hp hn hm hn2 hm2 (fun v0 v1 v2 v4 v5 v6 v8 A1 c1 A3 c3 h w' o1 o3 l q b => hQ v0 v1 v2 v4 v5 v6 v8 A1 c1 A3 c3 h w' o1 o3 l q ⟨b.os, b.tape, b.output, b.size, b.block⟩) 11 false false false false false false false false false false false a0 w0.drew (by decide)
    ⟨rfl, rfl, fun _ _ => rfl, Below.refl _ _, (fun h => nomatch h), (fun h => nomatch h), (fun h => nomatch h), (fun h => nomatch h), (fun h => nomatch h), (fun h => nomatch h), (fun h => nomatch h), (fun h => nomatch h), (fun h => nomatch h), (fun h => nomatch h), (fun h => nomatch h), (fun h => nomatch h), (fun h => nomatch h)⟩
/-- The eleven operations. -/
def opsS (p0 p1 p2 p3 p4 p5 p6 p7 p8 p9 p10 : String) : Array Oper := #[{ dst := some 30, op := .buildSlice 33 0 #[], type := 33, pos := p0, after := #[], guard := none }, { dst := some 31, op := .fieldAddr 41 (.tmp 2) 0, type := 0, pos := p1, after := #[], guard := none }, { dst := some 32, op := .load 33 (.tmp 31), type := 33, pos := p2, after := #[{ on := 1, ground := .data }], guard := none }, { dst := some 33, op := .call { callee := .builtin .append, args := #[.tmp 30, .tmp 32], argTypes := #[33, 33] }, type := 33, pos := p3, after := #[{ on := 0, ground := .data }, { on := 2, ground := .data }], guard := none }, { dst := some 34, op := .buildSlice 26 0 #[], type := 26, pos := p4, after := #[], guard := none }, { dst := some 35, op := .fieldAddr 41 (.tmp 2) 1, type := 0, pos := p5, after := #[], guard := none }, { dst := some 36, op := .load 26 (.tmp 35), type := 26, pos := p6, after := #[{ on := 5, ground := .data }], guard := none }, { dst := some 37, op := .call { callee := .builtin .append, args := #[.tmp 34, .tmp 36], argTypes := #[26, 26] }, type := 26, pos := p7, after := #[{ on := 4, ground := .data }, { on := 6, ground := .data }, { on := 3, ground := .chain }], guard := none }, { dst := some 38, op := .build 41 #[(0, .tmp 33), (1, .tmp 37)], type := 41, pos := p8, after := #[{ on := 3, ground := .data }, { on := 7, ground := .data }], guard := none }, { dst := some 7, op := .alloc 41, type := 0, pos := p9, after := #[], guard := none }, { dst := none, op := .store 41 (.tmp 7) (.tmp 38), type := 0, pos := p10, after := #[{ on := 9, ground := .data }, { on := 8, ground := .data }, { on := 7, ground := .chain }, { on := 0, ground := .phase }, { on := 1, ground := .phase }, { on := 2, ground := .phase }, { on := 3, ground := .phase }, { on := 4, ground := .phase }, { on := 5, ground := .phase }, { on := 6, ground := .phase }, { on := 7, ground := .phase }, { on := 8, ground := .phase }, { on := 9, ground := .phase }], guard := none }]
structure InvS (a0 : Act) (w0 : World) (g : Nat) (A : Option Addr) (n c : Nat) (zs : List Int) (A2 : Option Addr) (m d : Nat) (ps : List Dat) (b0 b1 b2 b3 b4 b5 b6 b7 b8 b9 b10 : Bool) (a : Act) (w : World) : Prop where
  df : a.defers = a0.defers
  sz : a.tmps.size = a0.tmps.size
  fr : ∀ k, k ∉ [30, 31, 32, 33, 34, 35, 36, 37, 38, 7] → a.eval (.tmp k) = a0.eval (.tmp k)
  bl : Below w0.heap.size w0 w
  c7 : b7 = true → b3 = true
  c8 : b8 = true → b7 = true
  c10 : b10 = true → b8 = true ∧ b9 = true
  s0 : b0 = true → b3 = false → ∃ A, a.eval (.tmp 30) = .slice A 0 0 ∧ Own w w0.heap.size 3 1 A 0 0 []
  s1 : b1 = true → a.eval (.tmp 31) = .pointer (some ⟨g, 0, none⟩)
  s2 : b2 = true → a.eval (.tmp 32) = .slice A n c
  s3 : b3 = true → ∃ A1 c1, a.eval (.tmp 33) = .slice A1 n c1 ∧ Own w w0.heap.size 3 1 A1 n c1 (ints zs)
  s4 : b4 = true → b7 = false → ∃ A, a.eval (.tmp 34) = .slice A 0 0 ∧ Own w w0.heap.size 45 7 A 0 0 []
  s5 : b5 = true → a.eval (.tmp 35) = .pointer (some ⟨g, 1, none⟩)
  s6 : b6 = true → a.eval (.tmp 36) = .slice A2 m d
  s7 : b7 = true → ∃ A3 c3, a.eval (.tmp 37) = .slice A3 m c3 ∧ Own w w0.heap.size 45 7 A3 m c3 (dats ps)
  s8 : b8 = true → a.eval (.tmp 38) = .agg #[a.eval (.tmp 33), a.eval (.tmp 37)]
  s9 : b9 = true → ∃ h x y, a.eval (.tmp 7) = .pointer (some ⟨h, 0, none⟩) ∧ w0.heap.size ≤ h ∧ Blk w h #[x, y] 41 ∧ (b10 = true → x = a.eval (.tmp 33) ∧ y = a.eval (.tmp 37))
set_option maxHeartbeats 400000 in
theorem stepS1 {Q : Exit → Act → World → Prop} {K : Act → World → Prop} (p0 p1 p2 p3 p4 p5 p6 p7 p8 p9 p10 : String) (a0 : Act) (w0 : World) (g : Nat) (A : Option Addr) (n c : Nat) (zs : List Int) (A2 : Option Addr) (m d : Nat) (ps : List Dat) (hz : 38 < a0.tmps.size) (hg2 : a0.eval (.tmp 2) = .pointer (some ⟨g, 0, none⟩)) (hgl : g < w0.heap.size) (hx0 : w0.cell? ⟨g, 0, none⟩ = some (.slice A n c)) (hx1 : w0.cell? ⟨g, 1, none⟩ = some (.slice A2 m d)) (hs : Sl w0 w0.heap.size A (ints zs)) (hp : Sl w0 w0.heap.size A2 (dats ps)) (hn : zs.length = n) (hm : ps.length = m) (hn2 : n ≤ 1048576) (hm2 : m ≤ 1048576) {b0 b2 b3 b4 b5 b6 b7 b8 b9 b10 : Bool} {a : Act} {w : World}
    (I : InvS a0 w0 g A n c zs A2 m d ps b0 false b2 b3 b4 b5 b6 b7 b8 b9 b10 a w) (hK : ∀ a' w', InvS a0 w0 g A n c zs A2 m d ps b0 true b2 b3 b4 b5 b6 b7 b8 b9 b10 a' w' → K a' w') : wpOp Try.prog (opsS p0 p1 p2 p3 p4 p5 p6 p7 p8 p9 p10) Q 1 K a w := by
  refine wpOp_free (x := { dst := some 31, op := .fieldAddr 41 (.tmp 2) 0, type := 0, pos := p1, after := #[], guard := none }) rfl rfl ?_
  have e2 : a.eval (.tmp 2) = .pointer (some ⟨g, 0, none⟩) := (I.fr 2 (by decide)).trans hg2
  have e2' := e2; simp only [Act.eval, Array.getD_eq_getD_getElem?] at e2'
  go_simp
  refine hK (Act.put a (some 31) _) _ (⟨((put_defs a (some 31) _).trans I.df),
      ((put_size a (some 31) _).trans I.sz),
      (fun k hk => (ev_ne a (d := 31) _ (fun e => hk (by subst e; decide))).trans (I.fr k hk)),
      (I.bl),
      (I.c7),
      (I.c8),
      (I.c10),
      (fun h h' => by obtain ⟨A', e1, o1⟩ := I.s0 h h'; exact ⟨A', (ev_ne a _ (by decide : (30 : Nat) ≠ 31)).trans e1, o1⟩),
      (fun _ => ev_eq a _ (show 31 < a.tmps.size by rw [I.sz]; omega)),
      (fun h => (ev_ne a _ (by decide : (32 : Nat) ≠ 31)).trans (I.s2 h)),
      (fun h => by obtain ⟨A', c', e1, o1⟩ := I.s3 h; exact ⟨A', c', (ev_ne a _ (by decide : (33 : Nat) ≠ 31)).trans e1, o1⟩),
      (fun h h' => by obtain ⟨A', e1, o1⟩ := I.s4 h h'; exact ⟨A', (ev_ne a _ (by decide : (34 : Nat) ≠ 31)).trans e1, o1⟩),
      (fun h => (ev_ne a _ (by decide : (35 : Nat) ≠ 31)).trans (I.s5 h)),
      (fun h => (ev_ne a _ (by decide : (36 : Nat) ≠ 31)).trans (I.s6 h)),
      (fun h => by obtain ⟨A', c', e1, o1⟩ := I.s7 h; exact ⟨A', c', (ev_ne a _ (by decide : (37 : Nat) ≠ 31)).trans e1, o1⟩),
      (fun h => by rw [ev_ne a _ (by decide : (38 : Nat) ≠ 31), ev_ne a _ (by decide : (33 : Nat) ≠ 31), ev_ne a _ (by decide : (37 : Nat) ≠ 31)]; exact I.s8 h),
      (fun h => by obtain ⟨h', x, y, e1, l1, q1, k1⟩ := I.s9 h; exact ⟨h', x, y, (ev_ne a _ (by decide : (7 : Nat) ≠ 31)).trans e1, l1, q1, fun h => by rw [ev_ne a _ (by decide : (33 : Nat) ≠ 31), ev_ne a _ (by decide : (37 : Nat) ≠ 31)]; exact k1 h⟩)⟩)
set_option maxHeartbeats 400000 in
theorem stepS5 {Q : Exit → Act → World → Prop} {K : Act → World → Prop} (p0 p1 p2 p3 p4 p5 p6 p7 p8 p9 p10 : String) (a0 : Act) (w0 : World) (g : Nat) (A : Option Addr) (n c : Nat) (zs : List Int) (A2 : Option Addr) (m d : Nat) (ps : List Dat) (hz : 38 < a0.tmps.size) (hg2 : a0.eval (.tmp 2) = .pointer (some ⟨g, 0, none⟩)) (hgl : g < w0.heap.size) (hx0 : w0.cell? ⟨g, 0, none⟩ = some (.slice A n c)) (hx1 : w0.cell? ⟨g, 1, none⟩ = some (.slice A2 m d)) (hs : Sl w0 w0.heap.size A (ints zs)) (hp : Sl w0 w0.heap.size A2 (dats ps)) (hn : zs.length = n) (hm : ps.length = m) (hn2 : n ≤ 1048576) (hm2 : m ≤ 1048576) {b0 b1 b2 b3 b4 b6 b7 b8 b9 b10 : Bool} {a : Act} {w : World}
    (I : InvS a0 w0 g A n c zs A2 m d ps b0 b1 b2 b3 b4 false b6 b7 b8 b9 b10 a w) (hK : ∀ a' w', InvS a0 w0 g A n c zs A2 m d ps b0 b1 b2 b3 b4 true b6 b7 b8 b9 b10 a' w' → K a' w') : wpOp Try.prog (opsS p0 p1 p2 p3 p4 p5 p6 p7 p8 p9 p10) Q 5 K a w := by
  refine wpOp_free (x := { dst := some 35, op := .fieldAddr 41 (.tmp 2) 1, type := 0, pos := p5, after := #[], guard := none }) rfl rfl ?_
  have e2 : a.eval (.tmp 2) = .pointer (some ⟨g, 0, none⟩) := (I.fr 2 (by decide)).trans hg2
  have e2' := e2; simp only [Act.eval, Array.getD_eq_getD_getElem?] at e2'
  go_simp
  refine hK (Act.put a (some 35) _) _ (⟨((put_defs a (some 35) _).trans I.df),
      ((put_size a (some 35) _).trans I.sz),
      (fun k hk => (ev_ne a (d := 35) _ (fun e => hk (by subst e; decide))).trans (I.fr k hk)),
      (I.bl),
      (I.c7),
      (I.c8),
      (I.c10),
      (fun h h' => by obtain ⟨A', e1, o1⟩ := I.s0 h h'; exact ⟨A', (ev_ne a _ (by decide : (30 : Nat) ≠ 35)).trans e1, o1⟩),
      (fun h => (ev_ne a _ (by decide : (31 : Nat) ≠ 35)).trans (I.s1 h)),
      (fun h => (ev_ne a _ (by decide : (32 : Nat) ≠ 35)).trans (I.s2 h)),
      (fun h => by obtain ⟨A', c', e1, o1⟩ := I.s3 h; exact ⟨A', c', (ev_ne a _ (by decide : (33 : Nat) ≠ 35)).trans e1, o1⟩),
      (fun h h' => by obtain ⟨A', e1, o1⟩ := I.s4 h h'; exact ⟨A', (ev_ne a _ (by decide : (34 : Nat) ≠ 35)).trans e1, o1⟩),
      (fun _ => ev_eq a _ (show 35 < a.tmps.size by rw [I.sz]; omega)),
      (fun h => (ev_ne a _ (by decide : (36 : Nat) ≠ 35)).trans (I.s6 h)),
      (fun h => by obtain ⟨A', c', e1, o1⟩ := I.s7 h; exact ⟨A', c', (ev_ne a _ (by decide : (37 : Nat) ≠ 35)).trans e1, o1⟩),
      (fun h => by rw [ev_ne a _ (by decide : (38 : Nat) ≠ 35), ev_ne a _ (by decide : (33 : Nat) ≠ 35), ev_ne a _ (by decide : (37 : Nat) ≠ 35)]; exact I.s8 h),
      (fun h => by obtain ⟨h', x, y, e1, l1, q1, k1⟩ := I.s9 h; exact ⟨h', x, y, (ev_ne a _ (by decide : (7 : Nat) ≠ 35)).trans e1, l1, q1, fun h => by rw [ev_ne a _ (by decide : (33 : Nat) ≠ 35), ev_ne a _ (by decide : (37 : Nat) ≠ 35)]; exact k1 h⟩)⟩)
set_option maxHeartbeats 400000 in
theorem stepS2 {Q : Exit → Act → World → Prop} {K : Act → World → Prop} (p0 p1 p2 p3 p4 p5 p6 p7 p8 p9 p10 : String) (a0 : Act) (w0 : World) (g : Nat) (A : Option Addr) (n c : Nat) (zs : List Int) (A2 : Option Addr) (m d : Nat) (ps : List Dat) (hz : 38 < a0.tmps.size) (hg2 : a0.eval (.tmp 2) = .pointer (some ⟨g, 0, none⟩)) (hgl : g < w0.heap.size) (hx0 : w0.cell? ⟨g, 0, none⟩ = some (.slice A n c)) (hx1 : w0.cell? ⟨g, 1, none⟩ = some (.slice A2 m d)) (hs : Sl w0 w0.heap.size A (ints zs)) (hp : Sl w0 w0.heap.size A2 (dats ps)) (hn : zs.length = n) (hm : ps.length = m) (hn2 : n ≤ 1048576) (hm2 : m ≤ 1048576) {b0 b3 b4 b5 b6 b7 b8 b9 b10 : Bool} {a : Act} {w : World}
    (I : InvS a0 w0 g A n c zs A2 m d ps b0 true false b3 b4 b5 b6 b7 b8 b9 b10 a w) (hK : ∀ a' w', InvS a0 w0 g A n c zs A2 m d ps b0 true true b3 b4 b5 b6 b7 b8 b9 b10 a' w' → K a' w') : wpOp Try.prog (opsS p0 p1 p2 p3 p4 p5 p6 p7 p8 p9 p10) Q 2 K a w := by
  refine wpOp_free (x := { dst := some 32, op := .load 33 (.tmp 31), type := 33, pos := p2, after := #[{ on := 1, ground := .data }], guard := none }) rfl rfl ?_
  have e2 := I.s1 rfl
  have e2' := e2; simp only [Act.eval, Array.getD_eq_getD_getElem?] at e2'
  have x0 : w.cell? ⟨g, 0, none⟩ = some (.slice A n c) := ((bcell I.bl).1 g 0 hgl).trans hx0
  go_simp
  refine hK (Act.put a (some 32) _) _ (⟨((put_defs a (some 32) _).trans I.df),
      ((put_size a (some 32) _).trans I.sz),
      (fun k hk => (ev_ne a (d := 32) _ (fun e => hk (by subst e; decide))).trans (I.fr k hk)),
      (I.bl),
      (I.c7),
      (I.c8),
      (I.c10),
      (fun h h' => by obtain ⟨A', e1, o1⟩ := I.s0 h h'; exact ⟨A', (ev_ne a _ (by decide : (30 : Nat) ≠ 32)).trans e1, o1⟩),
      (fun h => (ev_ne a _ (by decide : (31 : Nat) ≠ 32)).trans (I.s1 h)),
      (fun _ => ev_eq a _ (show 32 < a.tmps.size by rw [I.sz]; omega)),
      (fun h => by obtain ⟨A', c', e1, o1⟩ := I.s3 h; exact ⟨A', c', (ev_ne a _ (by decide : (33 : Nat) ≠ 32)).trans e1, o1⟩),
      (fun h h' => by obtain ⟨A', e1, o1⟩ := I.s4 h h'; exact ⟨A', (ev_ne a _ (by decide : (34 : Nat) ≠ 32)).trans e1, o1⟩),
      (fun h => (ev_ne a _ (by decide : (35 : Nat) ≠ 32)).trans (I.s5 h)),
      (fun h => (ev_ne a _ (by decide : (36 : Nat) ≠ 32)).trans (I.s6 h)),
      (fun h => by obtain ⟨A', c', e1, o1⟩ := I.s7 h; exact ⟨A', c', (ev_ne a _ (by decide : (37 : Nat) ≠ 32)).trans e1, o1⟩),
      (fun h => by rw [ev_ne a _ (by decide : (38 : Nat) ≠ 32), ev_ne a _ (by decide : (33 : Nat) ≠ 32), ev_ne a _ (by decide : (37 : Nat) ≠ 32)]; exact I.s8 h),
      (fun h => by obtain ⟨h', x, y, e1, l1, q1, k1⟩ := I.s9 h; exact ⟨h', x, y, (ev_ne a _ (by decide : (7 : Nat) ≠ 32)).trans e1, l1, q1, fun h => by rw [ev_ne a _ (by decide : (33 : Nat) ≠ 32), ev_ne a _ (by decide : (37 : Nat) ≠ 32)]; exact k1 h⟩)⟩)
set_option maxHeartbeats 400000 in
theorem stepS6 {Q : Exit → Act → World → Prop} {K : Act → World → Prop} (p0 p1 p2 p3 p4 p5 p6 p7 p8 p9 p10 : String) (a0 : Act) (w0 : World) (g : Nat) (A : Option Addr) (n c : Nat) (zs : List Int) (A2 : Option Addr) (m d : Nat) (ps : List Dat) (hz : 38 < a0.tmps.size) (hg2 : a0.eval (.tmp 2) = .pointer (some ⟨g, 0, none⟩)) (hgl : g < w0.heap.size) (hx0 : w0.cell? ⟨g, 0, none⟩ = some (.slice A n c)) (hx1 : w0.cell? ⟨g, 1, none⟩ = some (.slice A2 m d)) (hs : Sl w0 w0.heap.size A (ints zs)) (hp : Sl w0 w0.heap.size A2 (dats ps)) (hn : zs.length = n) (hm : ps.length = m) (hn2 : n ≤ 1048576) (hm2 : m ≤ 1048576) {b0 b1 b2 b3 b4 b7 b8 b9 b10 : Bool} {a : Act} {w : World}
    (I : InvS a0 w0 g A n c zs A2 m d ps b0 b1 b2 b3 b4 true false b7 b8 b9 b10 a w) (hK : ∀ a' w', InvS a0 w0 g A n c zs A2 m d ps b0 b1 b2 b3 b4 true true b7 b8 b9 b10 a' w' → K a' w') : wpOp Try.prog (opsS p0 p1 p2 p3 p4 p5 p6 p7 p8 p9 p10) Q 6 K a w := by
  refine wpOp_free (x := { dst := some 36, op := .load 26 (.tmp 35), type := 26, pos := p6, after := #[{ on := 5, ground := .data }], guard := none }) rfl rfl ?_
  have e2 := I.s5 rfl
  have e2' := e2; simp only [Act.eval, Array.getD_eq_getD_getElem?] at e2'
  have x0 : w.cell? ⟨g, 1, none⟩ = some (.slice A2 m d) := ((bcell I.bl).1 g 1 hgl).trans hx1
  go_simp
  refine hK (Act.put a (some 36) _) _ (⟨((put_defs a (some 36) _).trans I.df),
      ((put_size a (some 36) _).trans I.sz),
      (fun k hk => (ev_ne a (d := 36) _ (fun e => hk (by subst e; decide))).trans (I.fr k hk)),
      (I.bl),
      (I.c7),
      (I.c8),
      (I.c10),
      (fun h h' => by obtain ⟨A', e1, o1⟩ := I.s0 h h'; exact ⟨A', (ev_ne a _ (by decide : (30 : Nat) ≠ 36)).trans e1, o1⟩),
      (fun h => (ev_ne a _ (by decide : (31 : Nat) ≠ 36)).trans (I.s1 h)),
      (fun h => (ev_ne a _ (by decide : (32 : Nat) ≠ 36)).trans (I.s2 h)),
      (fun h => by obtain ⟨A', c', e1, o1⟩ := I.s3 h; exact ⟨A', c', (ev_ne a _ (by decide : (33 : Nat) ≠ 36)).trans e1, o1⟩),
      (fun h h' => by obtain ⟨A', e1, o1⟩ := I.s4 h h'; exact ⟨A', (ev_ne a _ (by decide : (34 : Nat) ≠ 36)).trans e1, o1⟩),
      (fun h => (ev_ne a _ (by decide : (35 : Nat) ≠ 36)).trans (I.s5 h)),
      (fun _ => ev_eq a _ (show 36 < a.tmps.size by rw [I.sz]; omega)),
      (fun h => by obtain ⟨A', c', e1, o1⟩ := I.s7 h; exact ⟨A', c', (ev_ne a _ (by decide : (37 : Nat) ≠ 36)).trans e1, o1⟩),
      (fun h => by rw [ev_ne a _ (by decide : (38 : Nat) ≠ 36), ev_ne a _ (by decide : (33 : Nat) ≠ 36), ev_ne a _ (by decide : (37 : Nat) ≠ 36)]; exact I.s8 h),
      (fun h => by obtain ⟨h', x, y, e1, l1, q1, k1⟩ := I.s9 h; exact ⟨h', x, y, (ev_ne a _ (by decide : (7 : Nat) ≠ 36)).trans e1, l1, q1, fun h => by rw [ev_ne a _ (by decide : (33 : Nat) ≠ 36), ev_ne a _ (by decide : (37 : Nat) ≠ 36)]; exact k1 h⟩)⟩)
set_option maxHeartbeats 400000 in
theorem stepS0 {Q : Exit → Act → World → Prop} {K : Act → World → Prop} (p0 p1 p2 p3 p4 p5 p6 p7 p8 p9 p10 : String) (a0 : Act) (w0 : World) (g : Nat) (A : Option Addr) (n c : Nat) (zs : List Int) (A2 : Option Addr) (m d : Nat) (ps : List Dat) (hz : 38 < a0.tmps.size) (hg2 : a0.eval (.tmp 2) = .pointer (some ⟨g, 0, none⟩)) (hgl : g < w0.heap.size) (hx0 : w0.cell? ⟨g, 0, none⟩ = some (.slice A n c)) (hx1 : w0.cell? ⟨g, 1, none⟩ = some (.slice A2 m d)) (hs : Sl w0 w0.heap.size A (ints zs)) (hp : Sl w0 w0.heap.size A2 (dats ps)) (hn : zs.length = n) (hm : ps.length = m) (hn2 : n ≤ 1048576) (hm2 : m ≤ 1048576) {b1 b2 b3 b4 b5 b6 b7 b8 b9 b10 : Bool} {a : Act} {w : World}
    (I : InvS a0 w0 g A n c zs A2 m d ps false b1 b2 b3 b4 b5 b6 b7 b8 b9 b10 a w) (hK : ∀ a' w', InvS a0 w0 g A n c zs A2 m d ps true b1 b2 b3 b4 b5 b6 b7 b8 b9 b10 a' w' → K a' w') : wpOp Try.prog (opsS p0 p1 p2 p3 p4 p5 p6 p7 p8 p9 p10) Q 0 K a w := by
  refine wpOp_free (x := { dst := some 30, op := .buildSlice 33 0 #[], type := 33, pos := p0, after := #[], guard := none }) rfl rfl ?_
  have hsz := I.bl.size
  go_simp
  refine hK (Act.put a (some 30) _) _ (⟨((put_defs a (some 30) _).trans I.df),
      ((put_size a (some 30) _).trans I.sz),
      (fun k hk => (ev_ne a (d := 30) _ (fun e => hk (by subst e; decide))).trans (I.fr k hk)),
      (I.bl.alloc hsz _),
      (I.c7),
      (I.c8),
      (I.c10),
      (fun _ _ => ⟨some ⟨w.heap.size, 0, none⟩, ev_eq a _ (show 30 < a.tmps.size by rw [I.sz]; omega), (Own.made w w.heap.size 3 1 #[] 0 (Nat.le_refl _) (by unfold maxLen; omega) rfl).lower hsz⟩),
      (fun h => (ev_ne a _ (by decide : (31 : Nat) ≠ 30)).trans (I.s1 h)),
      (fun h => (ev_ne a _ (by decide : (32 : Nat) ≠ 30)).trans (I.s2 h)),
      (fun h => by obtain ⟨A', c', e1, o1⟩ := I.s3 h; exact ⟨A', c', (ev_ne a _ (by decide : (33 : Nat) ≠ 30)).trans e1, o1.alloc _⟩),
      (fun h h' => by obtain ⟨A', e1, o1⟩ := I.s4 h h'; exact ⟨A', (ev_ne a _ (by decide : (34 : Nat) ≠ 30)).trans e1, o1.alloc _⟩),
      (fun h => (ev_ne a _ (by decide : (35 : Nat) ≠ 30)).trans (I.s5 h)),
      (fun h => (ev_ne a _ (by decide : (36 : Nat) ≠ 30)).trans (I.s6 h)),
      (fun h => by obtain ⟨A', c', e1, o1⟩ := I.s7 h; exact ⟨A', c', (ev_ne a _ (by decide : (37 : Nat) ≠ 30)).trans e1, o1.alloc _⟩),
      (fun h => by rw [ev_ne a _ (by decide : (38 : Nat) ≠ 30), ev_ne a _ (by decide : (33 : Nat) ≠ 30), ev_ne a _ (by decide : (37 : Nat) ≠ 30)]; exact I.s8 h),
      (fun h => by obtain ⟨h', x, y, e1, l1, q1, k1⟩ := I.s9 h; exact ⟨h', x, y, (ev_ne a _ (by decide : (7 : Nat) ≠ 30)).trans e1, l1, q1.alloc _, fun h => by rw [ev_ne a _ (by decide : (33 : Nat) ≠ 30), ev_ne a _ (by decide : (37 : Nat) ≠ 30)]; exact k1 h⟩)⟩)
set_option maxHeartbeats 400000 in
theorem stepS4 {Q : Exit → Act → World → Prop} {K : Act → World → Prop} (p0 p1 p2 p3 p4 p5 p6 p7 p8 p9 p10 : String) (a0 : Act) (w0 : World) (g : Nat) (A : Option Addr) (n c : Nat) (zs : List Int) (A2 : Option Addr) (m d : Nat) (ps : List Dat) (hz : 38 < a0.tmps.size) (hg2 : a0.eval (.tmp 2) = .pointer (some ⟨g, 0, none⟩)) (hgl : g < w0.heap.size) (hx0 : w0.cell? ⟨g, 0, none⟩ = some (.slice A n c)) (hx1 : w0.cell? ⟨g, 1, none⟩ = some (.slice A2 m d)) (hs : Sl w0 w0.heap.size A (ints zs)) (hp : Sl w0 w0.heap.size A2 (dats ps)) (hn : zs.length = n) (hm : ps.length = m) (hn2 : n ≤ 1048576) (hm2 : m ≤ 1048576) {b0 b1 b2 b3 b5 b6 b7 b8 b9 b10 : Bool} {a : Act} {w : World}
    (I : InvS a0 w0 g A n c zs A2 m d ps b0 b1 b2 b3 false b5 b6 b7 b8 b9 b10 a w) (hK : ∀ a' w', InvS a0 w0 g A n c zs A2 m d ps b0 b1 b2 b3 true b5 b6 b7 b8 b9 b10 a' w' → K a' w') : wpOp Try.prog (opsS p0 p1 p2 p3 p4 p5 p6 p7 p8 p9 p10) Q 4 K a w := by
  refine wpOp_free (x := { dst := some 34, op := .buildSlice 26 0 #[], type := 26, pos := p4, after := #[], guard := none }) rfl rfl ?_
  have hsz := I.bl.size
  go_simp
  refine hK (Act.put a (some 34) _) _ (⟨((put_defs a (some 34) _).trans I.df),
      ((put_size a (some 34) _).trans I.sz),
      (fun k hk => (ev_ne a (d := 34) _ (fun e => hk (by subst e; decide))).trans (I.fr k hk)),
      (I.bl.alloc hsz _),
      (I.c7),
      (I.c8),
      (I.c10),
      (fun h h' => by obtain ⟨A', e1, o1⟩ := I.s0 h h'; exact ⟨A', (ev_ne a _ (by decide : (30 : Nat) ≠ 34)).trans e1, o1.alloc _⟩),
      (fun h => (ev_ne a _ (by decide : (31 : Nat) ≠ 34)).trans (I.s1 h)),
      (fun h => (ev_ne a _ (by decide : (32 : Nat) ≠ 34)).trans (I.s2 h)),
      (fun h => by obtain ⟨A', c', e1, o1⟩ := I.s3 h; exact ⟨A', c', (ev_ne a _ (by decide : (33 : Nat) ≠ 34)).trans e1, o1.alloc _⟩),
      (fun _ _ => ⟨some ⟨w.heap.size, 0, none⟩, ev_eq a _ (show 34 < a.tmps.size by rw [I.sz]; omega), (Own.made w w.heap.size 45 7 #[] 0 (Nat.le_refl _) (by unfold maxLen; omega) rfl).lower hsz⟩),
      (fun h => (ev_ne a _ (by decide : (35 : Nat) ≠ 34)).trans (I.s5 h)),
      (fun h => (ev_ne a _ (by decide : (36 : Nat) ≠ 34)).trans (I.s6 h)),
      (fun h => by obtain ⟨A', c', e1, o1⟩ := I.s7 h; exact ⟨A', c', (ev_ne a _ (by decide : (37 : Nat) ≠ 34)).trans e1, o1.alloc _⟩),
      (fun h => by rw [ev_ne a _ (by decide : (38 : Nat) ≠ 34), ev_ne a _ (by decide : (33 : Nat) ≠ 34), ev_ne a _ (by decide : (37 : Nat) ≠ 34)]; exact I.s8 h),
      (fun h => by obtain ⟨h', x, y, e1, l1, q1, k1⟩ := I.s9 h; exact ⟨h', x, y, (ev_ne a _ (by decide : (7 : Nat) ≠ 34)).trans e1, l1, q1.alloc _, fun h => by rw [ev_ne a _ (by decide : (33 : Nat) ≠ 34), ev_ne a _ (by decide : (37 : Nat) ≠ 34)]; exact k1 h⟩)⟩)
set_option maxHeartbeats 400000 in
theorem stepS9 {Q : Exit → Act → World → Prop} {K : Act → World → Prop} (p0 p1 p2 p3 p4 p5 p6 p7 p8 p9 p10 : String) (a0 : Act) (w0 : World) (g : Nat) (A : Option Addr) (n c : Nat) (zs : List Int) (A2 : Option Addr) (m d : Nat) (ps : List Dat) (hz : 38 < a0.tmps.size) (hg2 : a0.eval (.tmp 2) = .pointer (some ⟨g, 0, none⟩)) (hgl : g < w0.heap.size) (hx0 : w0.cell? ⟨g, 0, none⟩ = some (.slice A n c)) (hx1 : w0.cell? ⟨g, 1, none⟩ = some (.slice A2 m d)) (hs : Sl w0 w0.heap.size A (ints zs)) (hp : Sl w0 w0.heap.size A2 (dats ps)) (hn : zs.length = n) (hm : ps.length = m) (hn2 : n ≤ 1048576) (hm2 : m ≤ 1048576) {b0 b1 b2 b3 b4 b5 b6 b7 b8 : Bool} {a : Act} {w : World}
    (I : InvS a0 w0 g A n c zs A2 m d ps b0 b1 b2 b3 b4 b5 b6 b7 b8 false false a w) (hK : ∀ a' w', InvS a0 w0 g A n c zs A2 m d ps b0 b1 b2 b3 b4 b5 b6 b7 b8 true false a' w' → K a' w') : wpOp Try.prog (opsS p0 p1 p2 p3 p4 p5 p6 p7 p8 p9 p10) Q 9 K a w := by
  refine wpOp_free (x := { dst := some 7, op := .alloc 41, type := 0, pos := p9, after := #[], guard := none }) rfl rfl ?_
  have hsz := I.bl.size
  go_simp
  refine hK (Act.put a (some 7) _) _ (⟨((put_defs a (some 7) _).trans I.df),
      ((put_size a (some 7) _).trans I.sz),
      (fun k hk => (ev_ne a (d := 7) _ (fun e => hk (by subst e; decide))).trans (I.fr k hk)),
      (I.bl.alloc hsz _),
      (I.c7),
      (I.c8),
      (fun h => by cases h),
      (fun h h' => by obtain ⟨A', e1, o1⟩ := I.s0 h h'; exact ⟨A', (ev_ne a _ (by decide : (30 : Nat) ≠ 7)).trans e1, o1.alloc _⟩),
      (fun h => (ev_ne a _ (by decide : (31 : Nat) ≠ 7)).trans (I.s1 h)),
      (fun h => (ev_ne a _ (by decide : (32 : Nat) ≠ 7)).trans (I.s2 h)),
      (fun h => by obtain ⟨A', c', e1, o1⟩ := I.s3 h; exact ⟨A', c', (ev_ne a _ (by decide : (33 : Nat) ≠ 7)).trans e1, o1.alloc _⟩),
      (fun h h' => by obtain ⟨A', e1, o1⟩ := I.s4 h h'; exact ⟨A', (ev_ne a _ (by decide : (34 : Nat) ≠ 7)).trans e1, o1.alloc _⟩),
      (fun h => (ev_ne a _ (by decide : (35 : Nat) ≠ 7)).trans (I.s5 h)),
      (fun h => (ev_ne a _ (by decide : (36 : Nat) ≠ 7)).trans (I.s6 h)),
      (fun h => by obtain ⟨A', c', e1, o1⟩ := I.s7 h; exact ⟨A', c', (ev_ne a _ (by decide : (37 : Nat) ≠ 7)).trans e1, o1.alloc _⟩),
      (fun h => by rw [ev_ne a _ (by decide : (38 : Nat) ≠ 7), ev_ne a _ (by decide : (33 : Nat) ≠ 7), ev_ne a _ (by decide : (37 : Nat) ≠ 7)]; exact I.s8 h),
      (fun _ => ⟨w.heap.size, _, _, ev_eq a _ (show 7 < a.tmps.size by rw [I.sz]; omega), hsz, Blk.new w _ _, fun h => by cases h⟩)⟩)
set_option maxHeartbeats 800000 in
theorem stepS3 {Q : Exit → Act → World → Prop} {K : Act → World → Prop} (p0 p1 p2 p3 p4 p5 p6 p7 p8 p9 p10 : String) (a0 : Act) (w0 : World) (g : Nat) (A : Option Addr) (n c : Nat) (zs : List Int) (A2 : Option Addr) (m d : Nat) (ps : List Dat) (hz : 38 < a0.tmps.size) (hg2 : a0.eval (.tmp 2) = .pointer (some ⟨g, 0, none⟩)) (hgl : g < w0.heap.size) (hx0 : w0.cell? ⟨g, 0, none⟩ = some (.slice A n c)) (hx1 : w0.cell? ⟨g, 1, none⟩ = some (.slice A2 m d)) (hs : Sl w0 w0.heap.size A (ints zs)) (hp : Sl w0 w0.heap.size A2 (dats ps)) (hn : zs.length = n) (hm : ps.length = m) (hn2 : n ≤ 1048576) (hm2 : m ≤ 1048576) {b1 b4 b5 b6 b9 : Bool} {a : Act} {w : World}
    (I : InvS a0 w0 g A n c zs A2 m d ps true b1 true false b4 b5 b6 false false b9 false a w) (hK : ∀ a' w', InvS a0 w0 g A n c zs A2 m d ps true b1 true true b4 b5 b6 false false b9 false a' w' → K a' w') : wpOp Try.prog (opsS p0 p1 p2 p3 p4 p5 p6 p7 p8 p9 p10) Q 3 K a w := by
  refine wpOp_free (x := { dst := some 33, op := .call { callee := .builtin .append, args := #[.tmp 30, .tmp 32], argTypes := #[33, 33] }, type := 33, pos := p3, after := #[{ on := 0, ground := .data }, { on := 2, ground := .data }], guard := none }) rfl rfl ?_
  obtain ⟨i0, hi, hz0, hz1, hz2⟩ := info_parts info_int'
  obtain ⟨A', e1, O1⟩ := I.s0 rfl rfl
  have e2 := I.s2 rfl
  have hsz := I.bl.size
  refine wp_app w (.tmp 30) (.tmp 32) _ rfl w0.heap.size 3 i0 (.int .i64 0) 1 8 Try.underlying33 hi hz0 hz1 hz2 rfl (by decide) A' 0 0 [] e1 O1 w0.heap.size A n c (ints zs) e2 (hs.below I.bl (Nat.le_refl _)) (by rw [ints_len, hn, Nat.mul_one]) (ints_ones zs) (by unfold maxLen; omega) (by omega) hsz ?_
  intro A3 c3 row w' o3 g1 r1 d1
  simp only [Nat.zero_add, List.nil_append] at o3 ⊢
  refine hK (Act.put a (some 33) _) _ (⟨((put_defs a (some 33) _).trans I.df),
      ((put_size a (some 33) _).trans I.sz),
      (fun k hk => (ev_ne a (d := 33) _ (fun e => hk (by subst e; decide))).trans (I.fr k hk)),
      (below_at I.bl hsz g1 r1 (fun a ha => (O1.blk a ha).1)),
      (fun _ => rfl),
      (fun h => by cases h),
      (fun h => by cases h),
      (fun _ h => by cases h),
      (fun h => (ev_ne a _ (by decide : (31 : Nat) ≠ 33)).trans (I.s1 h)),
      (fun h => (ev_ne a _ (by decide : (32 : Nat) ≠ 33)).trans (I.s2 h)),
      (fun _ => ⟨A3, c3, ev_eq a _ (show 33 < a.tmps.size by rw [I.sz]; omega), o3⟩),
      (fun h h' => by obtain ⟨A', e1, o1⟩ := I.s4 h h'; exact ⟨A', (ev_ne a _ (by decide : (34 : Nat) ≠ 33)).trans e1, own_held o1 O1 (by decide) g1 r1⟩),
      (fun h => (ev_ne a _ (by decide : (35 : Nat) ≠ 33)).trans (I.s5 h)),
      (fun h => (ev_ne a _ (by decide : (36 : Nat) ≠ 33)).trans (I.s6 h)),
      (fun h => by obtain ⟨A', c', e1, o1⟩ := I.s7 h; exact ⟨A', c', (ev_ne a _ (by decide : (37 : Nat) ≠ 33)).trans e1, own_held o1 O1 (by decide) g1 r1⟩),
      (fun h => by cases h),
      (fun h => by obtain ⟨h', x, y, e1, l1, q1, _⟩ := I.s9 h; exact ⟨h', x, y, (ev_ne a _ (by decide : (7 : Nat) ≠ 33)).trans e1, l1, blk_held q1 O1 (by decide) g1 r1, fun h => by cases h⟩)⟩)
set_option maxHeartbeats 800000 in
theorem stepS7 {Q : Exit → Act → World → Prop} {K : Act → World → Prop} (p0 p1 p2 p3 p4 p5 p6 p7 p8 p9 p10 : String) (a0 : Act) (w0 : World) (g : Nat) (A : Option Addr) (n c : Nat) (zs : List Int) (A2 : Option Addr) (m d : Nat) (ps : List Dat) (hz : 38 < a0.tmps.size) (hg2 : a0.eval (.tmp 2) = .pointer (some ⟨g, 0, none⟩)) (hgl : g < w0.heap.size) (hx0 : w0.cell? ⟨g, 0, none⟩ = some (.slice A n c)) (hx1 : w0.cell? ⟨g, 1, none⟩ = some (.slice A2 m d)) (hs : Sl w0 w0.heap.size A (ints zs)) (hp : Sl w0 w0.heap.size A2 (dats ps)) (hn : zs.length = n) (hm : ps.length = m) (hn2 : n ≤ 1048576) (hm2 : m ≤ 1048576) {b0 b1 b2 b5 b9 : Bool} {a : Act} {w : World}
    (I : InvS a0 w0 g A n c zs A2 m d ps b0 b1 b2 true true b5 true false false b9 false a w) (hK : ∀ a' w', InvS a0 w0 g A n c zs A2 m d ps b0 b1 b2 true true b5 true true false b9 false a' w' → K a' w') : wpOp Try.prog (opsS p0 p1 p2 p3 p4 p5 p6 p7 p8 p9 p10) Q 7 K a w := by
  refine wpOp_free (x := { dst := some 37, op := .call { callee := .builtin .append, args := #[.tmp 34, .tmp 36], argTypes := #[26, 26] }, type := 26, pos := p7, after := #[{ on := 4, ground := .data }, { on := 6, ground := .data }, { on := 3, ground := .chain }], guard := none }) rfl rfl ?_
  obtain ⟨i0, hi, hz0, hz1, hz2⟩ := info_parts info_data
  obtain ⟨A', e1, O1⟩ := I.s4 rfl rfl
  have e2 := I.s6 rfl
  have hsz := I.bl.size
  refine wp_app w (.tmp 34) (.tmp 36) _ rfl w0.heap.size 45 i0 (.agg #[.int .i64 0, .int .i64 0, .int .i64 0, .bool false, .bool false, .bool false, .string ⟨#[]⟩]) 7 48 Try.underlying26 hi hz0 hz1 hz2 rfl (by decide) A' 0 0 [] e1 O1 w0.heap.size A2 m d (dats ps) e2 (hp.below I.bl (Nat.le_refl _)) (by rw [dats_len, hm]) (dats_one ps) (by unfold maxLen; omega) (by omega) hsz ?_
  intro A3 c3 row w' o3 g1 r1 d1
  simp only [Nat.zero_add, List.nil_append] at o3 ⊢
  refine hK (Act.put a (some 37) _) _ (⟨((put_defs a (some 37) _).trans I.df),
      ((put_size a (some 37) _).trans I.sz),
      (fun k hk => (ev_ne a (d := 37) _ (fun e => hk (by subst e; decide))).trans (I.fr k hk)),
      (below_at I.bl hsz g1 r1 (fun a ha => (O1.blk a ha).1)),
      (fun _ => rfl),
      (fun _ => rfl),
      (fun h => by cases h),
      (fun h h' => by obtain ⟨A', e1, o1⟩ := I.s0 h h'; exact ⟨A', (ev_ne a _ (by decide : (30 : Nat) ≠ 37)).trans e1, own_held o1 O1 (by decide) g1 r1⟩),
      (fun h => (ev_ne a _ (by decide : (31 : Nat) ≠ 37)).trans (I.s1 h)),
      (fun h => (ev_ne a _ (by decide : (32 : Nat) ≠ 37)).trans (I.s2 h)),
      (fun h => by obtain ⟨A', c', e1, o1⟩ := I.s3 h; exact ⟨A', c', (ev_ne a _ (by decide : (33 : Nat) ≠ 37)).trans e1, own_held o1 O1 (by decide) g1 r1⟩),
      (fun _ h => by cases h),
      (fun h => (ev_ne a _ (by decide : (35 : Nat) ≠ 37)).trans (I.s5 h)),
      (fun h => (ev_ne a _ (by decide : (36 : Nat) ≠ 37)).trans (I.s6 h)),
      (fun _ => ⟨A3, c3, ev_eq a _ (show 37 < a.tmps.size by rw [I.sz]; omega), o3⟩),
      (fun h => by cases h),
      (fun h => by obtain ⟨h', x, y, e1, l1, q1, _⟩ := I.s9 h; exact ⟨h', x, y, (ev_ne a _ (by decide : (7 : Nat) ≠ 37)).trans e1, l1, blk_held q1 O1 (by decide) g1 r1, fun h => by cases h⟩)⟩)
set_option maxHeartbeats 400000 in
theorem stepS8 {Q : Exit → Act → World → Prop} {K : Act → World → Prop} (p0 p1 p2 p3 p4 p5 p6 p7 p8 p9 p10 : String) (a0 : Act) (w0 : World) (g : Nat) (A : Option Addr) (n c : Nat) (zs : List Int) (A2 : Option Addr) (m d : Nat) (ps : List Dat) (hz : 38 < a0.tmps.size) (hg2 : a0.eval (.tmp 2) = .pointer (some ⟨g, 0, none⟩)) (hgl : g < w0.heap.size) (hx0 : w0.cell? ⟨g, 0, none⟩ = some (.slice A n c)) (hx1 : w0.cell? ⟨g, 1, none⟩ = some (.slice A2 m d)) (hs : Sl w0 w0.heap.size A (ints zs)) (hp : Sl w0 w0.heap.size A2 (dats ps)) (hn : zs.length = n) (hm : ps.length = m) (hn2 : n ≤ 1048576) (hm2 : m ≤ 1048576) {b0 b1 b2 b4 b5 b6 b9 : Bool} {a : Act} {w : World}
    (I : InvS a0 w0 g A n c zs A2 m d ps b0 b1 b2 true b4 b5 b6 true false b9 false a w) (hK : ∀ a' w', InvS a0 w0 g A n c zs A2 m d ps b0 b1 b2 true b4 b5 b6 true true b9 false a' w' → K a' w') : wpOp Try.prog (opsS p0 p1 p2 p3 p4 p5 p6 p7 p8 p9 p10) Q 8 K a w := by
  refine wpOp_free (x := { dst := some 38, op := .build 41 #[(0, .tmp 33), (1, .tmp 37)], type := 41, pos := p8, after := #[{ on := 3, ground := .data }, { on := 7, ground := .data }], guard := none }) rfl rfl ?_
  obtain ⟨A1, c1, e1, _⟩ := I.s3 rfl
  obtain ⟨A3, c3, e3, _⟩ := I.s7 rfl
  have e1' := e1; simp only [Act.eval, Array.getD_eq_getD_getElem?] at e1'
  have e3' := e3; simp only [Act.eval, Array.getD_eq_getD_getElem?] at e3'
  go_simp
  refine hK (Act.put a (some 38) _) _ (⟨((put_defs a (some 38) _).trans I.df),
      ((put_size a (some 38) _).trans I.sz),
      (fun k hk => (ev_ne a (d := 38) _ (fun e => hk (by subst e; decide))).trans (I.fr k hk)),
      (I.bl),
      (I.c7),
      (fun _ => rfl),
      (fun h => by cases h),
      (fun h h' => by obtain ⟨A', e1, o1⟩ := I.s0 h h'; exact ⟨A', (ev_ne a _ (by decide : (30 : Nat) ≠ 38)).trans e1, o1⟩),
      (fun h => (ev_ne a _ (by decide : (31 : Nat) ≠ 38)).trans (I.s1 h)),
      (fun h => (ev_ne a _ (by decide : (32 : Nat) ≠ 38)).trans (I.s2 h)),
      (fun h => by obtain ⟨A', c', e1, o1⟩ := I.s3 h; exact ⟨A', c', (ev_ne a _ (by decide : (33 : Nat) ≠ 38)).trans e1, o1⟩),
      (fun h h' => by obtain ⟨A', e1, o1⟩ := I.s4 h h'; exact ⟨A', (ev_ne a _ (by decide : (34 : Nat) ≠ 38)).trans e1, o1⟩),
      (fun h => (ev_ne a _ (by decide : (35 : Nat) ≠ 38)).trans (I.s5 h)),
      (fun h => (ev_ne a _ (by decide : (36 : Nat) ≠ 38)).trans (I.s6 h)),
      (fun h => by obtain ⟨A', c', e1, o1⟩ := I.s7 h; exact ⟨A', c', (ev_ne a _ (by decide : (37 : Nat) ≠ 38)).trans e1, o1⟩),
      (fun _ => by rw [ev_ne a _ (by decide : (33 : Nat) ≠ 38), ev_ne a _ (by decide : (37 : Nat) ≠ 38), e1, e3]; exact ev_eq a _ (show 38 < a.tmps.size by rw [I.sz]; omega)),
      (fun h => by obtain ⟨h', x, y, e1, l1, q1, k1⟩ := I.s9 h; exact ⟨h', x, y, (ev_ne a _ (by decide : (7 : Nat) ≠ 38)).trans e1, l1, q1, fun h => by rw [ev_ne a _ (by decide : (33 : Nat) ≠ 38), ev_ne a _ (by decide : (37 : Nat) ≠ 38)]; exact k1 h⟩)⟩)
set_option maxHeartbeats 800000 in
theorem stepS10 {Q : Exit → Act → World → Prop} {K : Act → World → Prop} (p0 p1 p2 p3 p4 p5 p6 p7 p8 p9 p10 : String) (a0 : Act) (w0 : World) (g : Nat) (A : Option Addr) (n c : Nat) (zs : List Int) (A2 : Option Addr) (m d : Nat) (ps : List Dat) (hz : 38 < a0.tmps.size) (hg2 : a0.eval (.tmp 2) = .pointer (some ⟨g, 0, none⟩)) (hgl : g < w0.heap.size) (hx0 : w0.cell? ⟨g, 0, none⟩ = some (.slice A n c)) (hx1 : w0.cell? ⟨g, 1, none⟩ = some (.slice A2 m d)) (hs : Sl w0 w0.heap.size A (ints zs)) (hp : Sl w0 w0.heap.size A2 (dats ps)) (hn : zs.length = n) (hm : ps.length = m) (hn2 : n ≤ 1048576) (hm2 : m ≤ 1048576) {a : Act} {w : World}
    (I : InvS a0 w0 g A n c zs A2 m d ps true true true true true true true true true true false a w) (hK : ∀ a' w', InvS a0 w0 g A n c zs A2 m d ps true true true true true true true true true true true a' w' → K a' w') : wpOp Try.prog (opsS p0 p1 p2 p3 p4 p5 p6 p7 p8 p9 p10) Q 10 K a w := by
  refine wpOp_free (x := { dst := none, op := .store 41 (.tmp 7) (.tmp 38), type := 0, pos := p10, after := #[{ on := 9, ground := .data }, { on := 8, ground := .data }, { on := 7, ground := .chain }, { on := 0, ground := .phase }, { on := 1, ground := .phase }, { on := 2, ground := .phase }, { on := 3, ground := .phase }, { on := 4, ground := .phase }, { on := 5, ground := .phase }, { on := 6, ground := .phase }, { on := 7, ground := .phase }, { on := 8, ground := .phase }, { on := 9, ground := .phase }], guard := none }) rfl rfl ?_
  obtain ⟨h, x, y, e1, l1, q1, _⟩ := I.s9 rfl
  obtain ⟨A1, c1, e3, o3⟩ := I.s3 rfl
  obtain ⟨A3, c3, e7, o7⟩ := I.s7 rfl
  have e8 := I.s8 rfl
  rw [e3, e7] at e8
  have x0 : w.cell? ⟨h, 0, none⟩ = some x := q1.get 0 rfl
  have x1 : w.cell? ⟨h, 1, none⟩ = some y := q1.get 1 rfl
  have f0 := q1.frozen 0
  have f1 := q1.frozen 1
  have hl := q1.lt
  have e1' := e1; simp only [Act.eval, Array.getD_eq_getD_getElem?] at e1'
  have e8' := e8; simp only [Act.eval, Array.getD_eq_getD_getElem?] at e8'
  go_simp
  refine hK _ _ (⟨(I.df),
      (I.sz),
      (I.fr),
      ((I.bl.setCell l1 _).setCell l1 _),
      (I.c7),
      (I.c8),
      (fun _ => ⟨rfl, rfl⟩),
      (fun h h' => by obtain ⟨A', e1, o1⟩ := I.s0 h h'; exact ⟨A', e1, own_far (own_far o1 q1 (by decide) 0 _) (q1.set_ 0 _) (by decide) 1 _⟩),
      (fun h => (I.s1 h)),
      (fun h => (I.s2 h)),
      (fun h => by obtain ⟨A', c', e1, o1⟩ := I.s3 h; exact ⟨A', c', e1, own_far (own_far o1 q1 (by decide) 0 _) (q1.set_ 0 _) (by decide) 1 _⟩),
      (fun h h' => by obtain ⟨A', e1, o1⟩ := I.s4 h h'; exact ⟨A', e1, own_far (own_far o1 q1 (by decide) 0 _) (q1.set_ 0 _) (by decide) 1 _⟩),
      (fun h => (I.s5 h)),
      (fun h => (I.s6 h)),
      (fun h => by obtain ⟨A', c', e1, o1⟩ := I.s7 h; exact ⟨A', c', e1, own_far (own_far o1 q1 (by decide) 0 _) (q1.set_ 0 _) (by decide) 1 _⟩),
      (I.s8),
      (fun _ => ⟨h, _, _, e1, l1, by have q2 := (q1.set_ 0 (.slice A1 n c1)).set_ 1 (.slice A3 m c3); simpa using q2, fun _ => ⟨e3.symm, e7.symm⟩⟩)⟩)
set_option maxHeartbeats 800000 in
theorem endS {Q : Exit → Act → World → Prop} (a0 : Act) (w0 : World) (g : Nat) (A : Option Addr) (n c : Nat) (zs : List Int) (A2 : Option Addr) (m d : Nat) (ps : List Dat) (hz : 38 < a0.tmps.size) (hg2 : a0.eval (.tmp 2) = .pointer (some ⟨g, 0, none⟩)) (hgl : g < w0.heap.size) (hx0 : w0.cell? ⟨g, 0, none⟩ = some (.slice A n c)) (hx1 : w0.cell? ⟨g, 1, none⟩ = some (.slice A2 m d)) (hs : Sl w0 w0.heap.size A (ints zs)) (hp : Sl w0 w0.heap.size A2 (dats ps)) (hn : zs.length = n) (hm : ps.length = m) (hn2 : n ≤ 1048576) (hm2 : m ≤ 1048576) {a : Act} {w : World} (I : InvS a0 w0 g A n c zs A2 m d ps true true true true true true true true true true true a w)
    (hQ : ∀ (v0 v1 v2 v4 v5 v6 v8 : Value) (A1 : Option Addr) (c1 : Nat) (A3 : Option Addr) (c3 h : Nat) (w' : World), Own w' w0.heap.size 3 1 A1 n c1 (ints zs) → Own w' w0.heap.size 45 7 A3 m c3 (dats ps) → w0.heap.size ≤ h → Blk w' h #[.slice A1 n c1, .slice A3 m c3] 41 → Below w0.heap.size w0 w' → Q .normal (Act.put (Act.put (Act.put (Act.put (Act.put (Act.put (Act.put (Act.put (Act.put (Act.put a0 (some 30) v0) (some 31) v1) (some 32) v2) (some 33) (.slice A1 n c1)) (some 34) v4) (some 35) v5) (some 36) v6) (some 37) (.slice A3 m c3)) (some 38) v8) (some 7) (.pointer (some ⟨h, 0, none⟩))) w') : Q .normal a w := by
  obtain ⟨A1, c1, e3, o3⟩ := I.s3 rfl
  obtain ⟨A3, c3, e7, o7⟩ := I.s7 rfl
  obtain ⟨h, x, y, e9, l9, q9, k9⟩ := I.s9 rfl
  obtain ⟨rfl, rfl⟩ := k9 rfl
  rw [e3, e7] at q9
  have H := hQ (a.eval (.tmp 30)) (a.eval (.tmp 31)) (a.eval (.tmp 32)) (a.eval (.tmp 34)) (a.eval (.tmp 35)) (a.eval (.tmp 36)) (a.eval (.tmp 38)) A1 c1 A3 c3 h w o3 o7 l9 q9 I.bl
  have hact : (Act.put (Act.put (Act.put (Act.put (Act.put (Act.put (Act.put (Act.put (Act.put (Act.put a0 (some 30) (a.eval (.tmp 30))) (some 31) (a.eval (.tmp 31))) (some 32) (a.eval (.tmp 32))) (some 33) (.slice A1 n c1)) (some 34) (a.eval (.tmp 34))) (some 35) (a.eval (.tmp 35))) (some 36) (a.eval (.tmp 36))) (some 37) (.slice A3 m c3)) (some 38) (a.eval (.tmp 38))) (some 7) (.pointer (some ⟨h, 0, none⟩))) = a := by
    refine act_ext ?_ ?_ fun k hk => ?_
    · simp only [put_size]; exact I.sz.symm
    · simp only [put_defs]; exact I.df.symm
    by_cases h9 : k = 7
    · subst h9
      rw [ev_eq _ _ (by (try simp only [put_size]); omega)]; exact e9.symm
    rw [ev_ne _ _ h9]
    by_cases h8 : k = 38
    · subst h8
      rw [ev_eq _ _ (by (try simp only [put_size]); omega)]
    rw [ev_ne _ _ h8]
    by_cases h7 : k = 37
    · subst h7
      rw [ev_eq _ _ (by (try simp only [put_size]); omega)]; exact e7.symm
    rw [ev_ne _ _ h7]
    by_cases h6 : k = 36
    · subst h6
      rw [ev_eq _ _ (by (try simp only [put_size]); omega)]
    rw [ev_ne _ _ h6]
    by_cases h5 : k = 35
    · subst h5
      rw [ev_eq _ _ (by (try simp only [put_size]); omega)]
    rw [ev_ne _ _ h5]
    by_cases h4 : k = 34
    · subst h4
      rw [ev_eq _ _ (by (try simp only [put_size]); omega)]
    rw [ev_ne _ _ h4]
    by_cases h3 : k = 33
    · subst h3
      rw [ev_eq _ _ (by (try simp only [put_size]); omega)]; exact e3.symm
    rw [ev_ne _ _ h3]
    by_cases h2 : k = 32
    · subst h2
      rw [ev_eq _ _ (by (try simp only [put_size]); omega)]
    rw [ev_ne _ _ h2]
    by_cases h1 : k = 31
    · subst h1
      rw [ev_eq _ _ (by (try simp only [put_size]); omega)]
    rw [ev_ne _ _ h1]
    by_cases h0 : k = 30
    · subst h0
      rw [ev_eq _ _ (by (try simp only [put_size]); omega)]
    rw [ev_ne _ _ h0]
    exact (I.fr k (by simp only [List.mem_cons, List.not_mem_nil, or_false, not_or]; exact ⟨h0, h1, h2, h3, h4, h5, h6, h7, h8, h9⟩)).symm
  rw [hact] at H
  exact H
set_option maxHeartbeats 3200000 in
theorem anyS {Q : Exit → Act → World → Prop} (p0 p1 p2 p3 p4 p5 p6 p7 p8 p9 p10 : String) (a0 : Act) (w0 : World) (g : Nat) (A : Option Addr) (n c : Nat) (zs : List Int) (A2 : Option Addr) (m d : Nat) (ps : List Dat) (hz : 38 < a0.tmps.size) (hg2 : a0.eval (.tmp 2) = .pointer (some ⟨g, 0, none⟩)) (hgl : g < w0.heap.size) (hx0 : w0.cell? ⟨g, 0, none⟩ = some (.slice A n c)) (hx1 : w0.cell? ⟨g, 1, none⟩ = some (.slice A2 m d)) (hs : Sl w0 w0.heap.size A (ints zs)) (hp : Sl w0 w0.heap.size A2 (dats ps)) (hn : zs.length = n) (hm : ps.length = m) (hn2 : n ≤ 1048576) (hm2 : m ≤ 1048576)
    (hQ : ∀ (v0 v1 v2 v4 v5 v6 v8 : Value) (A1 : Option Addr) (c1 : Nat) (A3 : Option Addr) (c3 h : Nat) (w' : World), Own w' w0.heap.size 3 1 A1 n c1 (ints zs) → Own w' w0.heap.size 45 7 A3 m c3 (dats ps) → w0.heap.size ≤ h → Blk w' h #[.slice A1 n c1, .slice A3 m c3] 41 → Below w0.heap.size w0 w' → Q .normal (Act.put (Act.put (Act.put (Act.put (Act.put (Act.put (Act.put (Act.put (Act.put (Act.put a0 (some 30) v0) (some 31) v1) (some 32) v2) (some 33) (.slice A1 n c1)) (some 34) v4) (some 35) v5) (some 36) v6) (some 37) (.slice A3 m c3)) (some 38) v8) (some 7) (.pointer (some ⟨h, 0, none⟩))) w') :
    ∀ (fuel : Nat) (b0 b1 b2 b3 b4 b5 b6 b7 b8 b9 b10 : Bool) (a : Act) (w : World), 11 ≤ fuel + (b0.toNat + b1.toNat + b2.toNat + b3.toNat + b4.toNat + b5.toNat + b6.toNat + b7.toNat + b8.toNat + b9.toNat + b10.toNat) → InvS a0 w0 g A n c zs A2 m d ps b0 b1 b2 b3 b4 b5 b6 b7 b8 b9 b10 a w → wpAny Try.prog .any (opsS p0 p1 p2 p3 p4 p5 p6 p7 p8 p9 p10) Q fuel #[b0, b1, b2, b3, b4, b5, b6, b7, b8, b9, b10] a w
  | 0, b0, b1, b2, b3, b4, b5, b6, b7, b8, b9, b10, a, w, hc, I => by
    have k0 := Bool.toNat_le b0
    have k1 := Bool.toNat_le b1
    have k2 := Bool.toNat_le b2
    have k3 := Bool.toNat_le b3
    have k4 := Bool.toNat_le b4
    have k5 := Bool.toNat_le b5
    have k6 := Bool.toNat_le b6
    have k7 := Bool.toNat_le b7
    have k8 := Bool.toNat_le b8
    have k9 := Bool.toNat_le b9
    have k10 := Bool.toNat_le b10
    have t0 : b0 = true := by cases b0 <;> first | rfl | (exfalso; simp only [Bool.toNat_false] at hc; omega)
    have t1 : b1 = true := by cases b1 <;> first | rfl | (exfalso; simp only [Bool.toNat_false] at hc; omega)
    have t2 : b2 = true := by cases b2 <;> first | rfl | (exfalso; simp only [Bool.toNat_false] at hc; omega)
    have t3 : b3 = true := by cases b3 <;> first | rfl | (exfalso; simp only [Bool.toNat_false] at hc; omega)
    have t4 : b4 = true := by cases b4 <;> first | rfl | (exfalso; simp only [Bool.toNat_false] at hc; omega)
    have t5 : b5 = true := by cases b5 <;> first | rfl | (exfalso; simp only [Bool.toNat_false] at hc; omega)
    have t6 : b6 = true := by cases b6 <;> first | rfl | (exfalso; simp only [Bool.toNat_false] at hc; omega)
    have t7 : b7 = true := by cases b7 <;> first | rfl | (exfalso; simp only [Bool.toNat_false] at hc; omega)
    have t8 : b8 = true := by cases b8 <;> first | rfl | (exfalso; simp only [Bool.toNat_false] at hc; omega)
    have t9 : b9 = true := by cases b9 <;> first | rfl | (exfalso; simp only [Bool.toNat_false] at hc; omega)
    have t10 : b10 = true := by cases b10 <;> first | rfl | (exfalso; simp only [Bool.toNat_false] at hc; omega)
    subst t0 t1 t2 t3 t4 t5 t6 t7 t8 t9 t10
    exact ⟨by rfl, endS a0 w0 g A n c zs A2 m d ps hz hg2 hgl hx0 hx1 hs hp hn hm hn2 hm2 I hQ⟩
  | fuel + 1, b0, b1, b2, b3, b4, b5, b6, b7, b8, b9, b10, a, w, hc, I => by
    refine ⟨fun hr => ?_, fun i hi => ?_⟩
    · have no : ∀ i, i ∉ Region.ready .any (opsS p0 p1 p2 p3 p4 p5 p6 p7 p8 p9 p10) #[b0, b1, b2, b3, b4, b5, b6, b7, b8, b9, b10] := fun i h => by rw [hr] at h; cases h
      obtain rfl : b0 = true := by
        cases b0 with
        | true => rfl
        | false => exact absurd (mem_ready.2 ⟨rfl, _, rfl, by simp [opsS]⟩) (no 0)
      obtain rfl : b1 = true := by
        cases b1 with
        | true => rfl
        | false => exact absurd (mem_ready.2 ⟨rfl, _, rfl, by simp [opsS]⟩) (no 1)
      obtain rfl : b4 = true := by
        cases b4 with
        | true => rfl
        | false => exact absurd (mem_ready.2 ⟨rfl, _, rfl, by simp [opsS]⟩) (no 4)
      obtain rfl : b5 = true := by
        cases b5 with
        | true => rfl
        | false => exact absurd (mem_ready.2 ⟨rfl, _, rfl, by simp [opsS]⟩) (no 5)
      obtain rfl : b9 = true := by
        cases b9 with
        | true => rfl
        | false => exact absurd (mem_ready.2 ⟨rfl, _, rfl, by simp [opsS]⟩) (no 9)
      obtain rfl : b2 = true := by
        cases b2 with
        | true => rfl
        | false => exact absurd (mem_ready.2 ⟨rfl, _, rfl, by simp [opsS]⟩) (no 2)
      obtain rfl : b6 = true := by
        cases b6 with
        | true => rfl
        | false => exact absurd (mem_ready.2 ⟨rfl, _, rfl, by simp [opsS]⟩) (no 6)
      obtain rfl : b3 = true := by
        cases b3 with
        | true => rfl
        | false => exact absurd (mem_ready.2 ⟨rfl, _, rfl, by simp [opsS]⟩) (no 3)
      obtain rfl : b7 = true := by
        cases b7 with
        | true => rfl
        | false => exact absurd (mem_ready.2 ⟨rfl, _, rfl, by simp [opsS]⟩) (no 7)
      obtain rfl : b8 = true := by
        cases b8 with
        | true => rfl
        | false => exact absurd (mem_ready.2 ⟨rfl, _, rfl, by simp [opsS]⟩) (no 8)
      obtain rfl : b10 = true := by
        cases b10 with
        | true => rfl
        | false => exact absurd (mem_ready.2 ⟨rfl, _, rfl, by simp [opsS]⟩) (no 10)
      exact endS a0 w0 g A n c zs A2 m d ps hz hg2 hgl hx0 hx1 hs hp hn hm hn2 hm2 I hQ
    · obtain ⟨h1, x, h2, h3⟩ := mem_ready.1 hi
      have hlt : i < 11 := (Array.getElem?_eq_some_iff.1 h2).1
      rcases (by omega : i = 0 ∨ i = 1 ∨ i = 2 ∨ i = 3 ∨ i = 4 ∨ i = 5 ∨ i = 6 ∨ i = 7 ∨ i = 8 ∨ i = 9 ∨ i = 10) with rfl | rfl | rfl | rfl | rfl | rfl | rfl | rfl | rfl | rfl | rfl
      · obtain rfl : b0 = false := h1
        injection h2 with h2
        subst h2
        exact stepS0 p0 p1 p2 p3 p4 p5 p6 p7 p8 p9 p10 a0 w0 g A n c zs A2 m d ps hz hg2 hgl hx0 hx1 hs hp hn hm hn2 hm2 I (fun a' w' I' => anyS p0 p1 p2 p3 p4 p5 p6 p7 p8 p9 p10 a0 w0 g A n c zs A2 m d ps hz hg2 hgl hx0 hx1 hs hp hn hm hn2 hm2 hQ fuel true _ _ _ _ _ _ _ _ _ _ a' w' (by simp only [Bool.toNat_false, Bool.toNat_true] at hc ⊢; omega) I')
      · obtain rfl : b1 = false := h1
        injection h2 with h2
        subst h2
        exact stepS1 p0 p1 p2 p3 p4 p5 p6 p7 p8 p9 p10 a0 w0 g A n c zs A2 m d ps hz hg2 hgl hx0 hx1 hs hp hn hm hn2 hm2 I (fun a' w' I' => anyS p0 p1 p2 p3 p4 p5 p6 p7 p8 p9 p10 a0 w0 g A n c zs A2 m d ps hz hg2 hgl hx0 hx1 hs hp hn hm hn2 hm2 hQ fuel _ true _ _ _ _ _ _ _ _ _ a' w' (by simp only [Bool.toNat_false, Bool.toNat_true] at hc ⊢; omega) I')
      · obtain rfl : b2 = false := h1
        injection h2 with h2
        subst h2
        obtain rfl : b1 = true := by have := h3 _ (Array.mem_of_getElem? (i := 0) rfl) rfl; exact this
        exact stepS2 p0 p1 p2 p3 p4 p5 p6 p7 p8 p9 p10 a0 w0 g A n c zs A2 m d ps hz hg2 hgl hx0 hx1 hs hp hn hm hn2 hm2 I (fun a' w' I' => anyS p0 p1 p2 p3 p4 p5 p6 p7 p8 p9 p10 a0 w0 g A n c zs A2 m d ps hz hg2 hgl hx0 hx1 hs hp hn hm hn2 hm2 hQ fuel _ true true _ _ _ _ _ _ _ _ a' w' (by simp only [Bool.toNat_false, Bool.toNat_true] at hc ⊢; omega) I')
      · obtain rfl : b3 = false := h1
        injection h2 with h2
        subst h2
        obtain rfl : b0 = true := by have := h3 _ (Array.mem_of_getElem? (i := 0) rfl) rfl; exact this
        obtain rfl : b2 = true := by have := h3 _ (Array.mem_of_getElem? (i := 1) rfl) rfl; exact this
        obtain rfl : b7 = false := by
          cases b7 with
          | false => rfl
          | true => exact nomatch (I.c7 rfl)
        obtain rfl : b8 = false := by
          cases b8 with
          | false => rfl
          | true => exact nomatch (I.c8 rfl)
        obtain rfl : b10 = false := by
          cases b10 with
          | false => rfl
          | true => exact nomatch ((I.c10 rfl).1)
        exact stepS3 p0 p1 p2 p3 p4 p5 p6 p7 p8 p9 p10 a0 w0 g A n c zs A2 m d ps hz hg2 hgl hx0 hx1 hs hp hn hm hn2 hm2 I (fun a' w' I' => anyS p0 p1 p2 p3 p4 p5 p6 p7 p8 p9 p10 a0 w0 g A n c zs A2 m d ps hz hg2 hgl hx0 hx1 hs hp hn hm hn2 hm2 hQ fuel true _ true true _ _ _ _ _ _ _ a' w' (by simp only [Bool.toNat_false, Bool.toNat_true] at hc ⊢; omega) I')
      · obtain rfl : b4 = false := h1
        injection h2 with h2
        subst h2
        exact stepS4 p0 p1 p2 p3 p4 p5 p6 p7 p8 p9 p10 a0 w0 g A n c zs A2 m d ps hz hg2 hgl hx0 hx1 hs hp hn hm hn2 hm2 I (fun a' w' I' => anyS p0 p1 p2 p3 p4 p5 p6 p7 p8 p9 p10 a0 w0 g A n c zs A2 m d ps hz hg2 hgl hx0 hx1 hs hp hn hm hn2 hm2 hQ fuel _ _ _ _ true _ _ _ _ _ _ a' w' (by simp only [Bool.toNat_false, Bool.toNat_true] at hc ⊢; omega) I')
      · obtain rfl : b5 = false := h1
        injection h2 with h2
        subst h2
        exact stepS5 p0 p1 p2 p3 p4 p5 p6 p7 p8 p9 p10 a0 w0 g A n c zs A2 m d ps hz hg2 hgl hx0 hx1 hs hp hn hm hn2 hm2 I (fun a' w' I' => anyS p0 p1 p2 p3 p4 p5 p6 p7 p8 p9 p10 a0 w0 g A n c zs A2 m d ps hz hg2 hgl hx0 hx1 hs hp hn hm hn2 hm2 hQ fuel _ _ _ _ _ true _ _ _ _ _ a' w' (by simp only [Bool.toNat_false, Bool.toNat_true] at hc ⊢; omega) I')
      · obtain rfl : b6 = false := h1
        injection h2 with h2
        subst h2
        obtain rfl : b5 = true := by have := h3 _ (Array.mem_of_getElem? (i := 0) rfl) rfl; exact this
        exact stepS6 p0 p1 p2 p3 p4 p5 p6 p7 p8 p9 p10 a0 w0 g A n c zs A2 m d ps hz hg2 hgl hx0 hx1 hs hp hn hm hn2 hm2 I (fun a' w' I' => anyS p0 p1 p2 p3 p4 p5 p6 p7 p8 p9 p10 a0 w0 g A n c zs A2 m d ps hz hg2 hgl hx0 hx1 hs hp hn hm hn2 hm2 hQ fuel _ _ _ _ _ true true _ _ _ _ a' w' (by simp only [Bool.toNat_false, Bool.toNat_true] at hc ⊢; omega) I')
      · obtain rfl : b7 = false := h1
        injection h2 with h2
        subst h2
        obtain rfl : b4 = true := by have := h3 _ (Array.mem_of_getElem? (i := 0) rfl) rfl; exact this
        obtain rfl : b6 = true := by have := h3 _ (Array.mem_of_getElem? (i := 1) rfl) rfl; exact this
        obtain rfl : b3 = true := by have := h3 _ (Array.mem_of_getElem? (i := 2) rfl) rfl; exact this
        obtain rfl : b8 = false := by
          cases b8 with
          | false => rfl
          | true => exact nomatch (I.c8 rfl)
        obtain rfl : b10 = false := by
          cases b10 with
          | false => rfl
          | true => exact nomatch ((I.c10 rfl).1)
        exact stepS7 p0 p1 p2 p3 p4 p5 p6 p7 p8 p9 p10 a0 w0 g A n c zs A2 m d ps hz hg2 hgl hx0 hx1 hs hp hn hm hn2 hm2 I (fun a' w' I' => anyS p0 p1 p2 p3 p4 p5 p6 p7 p8 p9 p10 a0 w0 g A n c zs A2 m d ps hz hg2 hgl hx0 hx1 hs hp hn hm hn2 hm2 hQ fuel _ _ _ true true _ true true _ _ _ a' w' (by simp only [Bool.toNat_false, Bool.toNat_true] at hc ⊢; omega) I')
      · obtain rfl : b8 = false := h1
        injection h2 with h2
        subst h2
        obtain rfl : b3 = true := by have := h3 _ (Array.mem_of_getElem? (i := 0) rfl) rfl; exact this
        obtain rfl : b7 = true := by have := h3 _ (Array.mem_of_getElem? (i := 1) rfl) rfl; exact this
        obtain rfl : b10 = false := by
          cases b10 with
          | false => rfl
          | true => exact nomatch ((I.c10 rfl).1)
        exact stepS8 p0 p1 p2 p3 p4 p5 p6 p7 p8 p9 p10 a0 w0 g A n c zs A2 m d ps hz hg2 hgl hx0 hx1 hs hp hn hm hn2 hm2 I (fun a' w' I' => anyS p0 p1 p2 p3 p4 p5 p6 p7 p8 p9 p10 a0 w0 g A n c zs A2 m d ps hz hg2 hgl hx0 hx1 hs hp hn hm hn2 hm2 hQ fuel _ _ _ true _ _ _ true true _ _ a' w' (by simp only [Bool.toNat_false, Bool.toNat_true] at hc ⊢; omega) I')
      · obtain rfl : b9 = false := h1
        injection h2 with h2
        subst h2
        obtain rfl : b10 = false := by
          cases b10 with
          | false => rfl
          | true => exact nomatch ((I.c10 rfl).2)
        exact stepS9 p0 p1 p2 p3 p4 p5 p6 p7 p8 p9 p10 a0 w0 g A n c zs A2 m d ps hz hg2 hgl hx0 hx1 hs hp hn hm hn2 hm2 I (fun a' w' I' => anyS p0 p1 p2 p3 p4 p5 p6 p7 p8 p9 p10 a0 w0 g A n c zs A2 m d ps hz hg2 hgl hx0 hx1 hs hp hn hm hn2 hm2 hQ fuel _ _ _ _ _ _ _ _ _ true _ a' w' (by simp only [Bool.toNat_false, Bool.toNat_true] at hc ⊢; omega) I')
      · obtain rfl : b10 = false := h1
        injection h2 with h2
        subst h2
        obtain rfl : b0 = true := by have := h3 _ (Array.mem_of_getElem? (i := 3) rfl) rfl; exact this
        obtain rfl : b1 = true := by have := h3 _ (Array.mem_of_getElem? (i := 4) rfl) rfl; exact this
        obtain rfl : b2 = true := by have := h3 _ (Array.mem_of_getElem? (i := 5) rfl) rfl; exact this
        obtain rfl : b3 = true := by have := h3 _ (Array.mem_of_getElem? (i := 6) rfl) rfl; exact this
        obtain rfl : b4 = true := by have := h3 _ (Array.mem_of_getElem? (i := 7) rfl) rfl; exact this
        obtain rfl : b5 = true := by have := h3 _ (Array.mem_of_getElem? (i := 8) rfl) rfl; exact this
        obtain rfl : b6 = true := by have := h3 _ (Array.mem_of_getElem? (i := 9) rfl) rfl; exact this
        obtain rfl : b7 = true := by have := h3 _ (Array.mem_of_getElem? (i := 10) rfl) rfl; exact this
        obtain rfl : b8 = true := by have := h3 _ (Array.mem_of_getElem? (i := 11) rfl) rfl; exact this
        obtain rfl : b9 = true := by have := h3 _ (Array.mem_of_getElem? (i := 12) rfl) rfl; exact this
        exact stepS10 p0 p1 p2 p3 p4 p5 p6 p7 p8 p9 p10 a0 w0 g A n c zs A2 m d ps hz hg2 hgl hx0 hx1 hs hp hn hm hn2 hm2 I (fun a' w' I' => anyS p0 p1 p2 p3 p4 p5 p6 p7 p8 p9 p10 a0 w0 g A n c zs A2 m d ps hz hg2 hgl hx0 hx1 hs hp hn hm hn2 hm2 hQ fuel true true true true true true true true true true true a' w' (by simp only [Bool.toNat_false, Bool.toNat_true] at hc ⊢; omega) I')
theorem copyS {Q : Exit → Act → World → Prop} {id : Nat} {p0 p1 p2 p3 p4 p5 p6 p7 p8 p9 p10 : String} (a0 : Act) (w0 : World) (g : Nat) (A : Option Addr) (n c : Nat) (zs : List Int) (A2 : Option Addr) (m d : Nat) (ps : List Dat) (hz : 38 < a0.tmps.size) (hg2 : a0.eval (.tmp 2) = .pointer (some ⟨g, 0, none⟩)) (hgl : g < w0.heap.size) (hx0 : w0.cell? ⟨g, 0, none⟩ = some (.slice A n c)) (hx1 : w0.cell? ⟨g, 1, none⟩ = some (.slice A2 m d)) (hs : Sl w0 w0.heap.size A (ints zs)) (hp : Sl w0 w0.heap.size A2 (dats ps)) (hn : zs.length = n) (hm : ps.length = m) (hn2 : n ≤ 1048576) (hm2 : m ≤ 1048576)
    (hQ : ∀ (v0 v1 v2 v4 v5 v6 v8 : Value) (A1 : Option Addr) (c1 : Nat) (A3 : Option Addr) (c3 h : Nat) (w' : World), Own w' w0.heap.size 3 1 A1 n c1 (ints zs) → Own w' w0.heap.size 45 7 A3 m c3 (dats ps) → w0.heap.size ≤ h → Blk w' h #[.slice A1 n c1, .slice A3 m c3] 41 → Below w0.heap.size w0 w' → Q .normal (Act.put (Act.put (Act.put (Act.put (Act.put (Act.put (Act.put (Act.put (Act.put (Act.put a0 (some 30) v0) (some 31) v1) (some 32) v2) (some 33) (.slice A1 n c1)) (some 34) v4) (some 35) v5) (some 36) v6) (some 37) (.slice A3 m c3)) (some 38) v8) (some 7) (.pointer (some ⟨h, 0, none⟩))) w') :
    (Code.region id (opsS p0 p1 p2 p3 p4 p5 p6 p7 p8 p9 p10) true).wp Try.prog Q a0 w0 := by
  refine wp_region_any (by kernel_rfl) ?_
  exact anyS p0 p1 p2 p3 p4 p5 p6 p7 p8 p9 p10 a0 w0.drew g A n c zs A2 m d ps hz hg2 hgl hx0 hx1 hs hp hn hm hn2 hm2 (fun v0 v1 v2 v4 v5 v6 v8 A1 c1 A3 c3 h w' o1 o3 l q b => hQ v0 v1 v2 v4 v5 v6 v8 A1 c1 A3 c3 h w' o1 o3 l q ⟨b.os, b.tape, b.output, b.size, b.block⟩) 11 false false false false false false false false false false false a0 w0.drew (by decide)
    ⟨rfl, rfl, fun _ _ => rfl, Below.refl _ _, (fun h => nomatch h), (fun h => nomatch h), (fun h => nomatch h), (fun h => nomatch h), (fun h => nomatch h), (fun h => nomatch h), (fun h => nomatch h), (fun h => nomatch h), (fun h => nomatch h), (fun h => nomatch h), (fun h => nomatch h), (fun h => nomatch h), (fun h => nomatch h)⟩
end Go.Proofs.Ytkhaodbcnnlhaaa
