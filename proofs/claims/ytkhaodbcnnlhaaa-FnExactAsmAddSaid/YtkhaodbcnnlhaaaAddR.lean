/-
  What a round of AsmAdd in the program leaves where it lies; the parts that are marked as taken. Conditions: those that each theorem bears.
-/
import Derived.Test.YtkhaodbcnnlhaaaAddP
namespace Go.Proofs.Ytkhaodbcnnlhaaa
open Go.ChangeShapes Go.WideShapes Go.ChangeAt Go.RowKit
set_option linter.unusedVariables false
set_option linter.unusedSimpArgs false
section
variable {w wr w' : World} {h : Nat} {A3 : Option Addr} {n c3 : Nat} {nx : List Int} {A5 : Option Addr} {m5 c5 : Nat} {l : List Dat} {As : Option Addr} {q cs : Nat} {ms : List Msg}
/-- The row of parts is another. -/
theorem AdL.put1 (L : AdL w wr h A3 n c3 nx A5 m5 c5 l As q cs ms) {A8 : Option Addr} {m8 c8 : Nat} {l' : List Dat} (p : Own wr (w.heap.size + 3) 45 7 A8 m8 c8 (dats l')) (hh : w.heap.size + 3 ≤ h) :
    AdL w (wr.setCell ⟨h, 1, none⟩ (.slice A8 m8 c8)) h A3 n c3 nx A8 m8 c8 l' As q cs ms :=
  ⟨L.h.set_ 1 (.slice A8 m8 c8), L.z.far (p := ⟨h, 1, none⟩) (by show _ + _ ≠ h; omega) _, own_far L.i L.h (by decide) 1 _, own_far p L.h (by decide) 1 _, own_far L.s L.h (by decide) 1 _, L.b.setCell (by show _ ≤ h; omega) _⟩
/-- The next number of a stream is another. -/
theorem AdL.setI {a3 : Nat} (L : AdL w wr h (some ⟨a3, 0, none⟩) n c3 nx A5 m5 c5 l As q cs ms) (s : Nat) (v : Int) : AdL w (wr.setCell ⟨a3, s, none⟩ (.int .i64 v)) h (some ⟨a3, 0, none⟩) n c3 (nx.set s v) A5 m5 c5 l As q cs ms := by
  have hb := (L.i.blk _ rfl).1
  refine ⟨L.h.far (p := ⟨a3, s, none⟩) (fun e => L.i.ne_blk L.h (by decide) _ rfl e.symm) _, L.z.far (p := ⟨a3, s, none⟩) (fun e => L.i.ne_blk L.z (by decide) _ rfl e.symm) _, ?_, L.p.set_ne (p := ⟨a3, s, none⟩) (fun a ha => own_apart L.p L.i (by decide) a ⟨a3, 0, none⟩ ha rfl) _, L.s.set_ne (p := ⟨a3, s, none⟩) (fun a ha => own_apart L.s L.i (by decide) a ⟨a3, 0, none⟩ ha rfl) _, L.b.setCell (by show _ ≤ a3; have : w.heap.size + 3 ≤ a3 := hb; omega) _⟩
  have k := L.i.put s (.int .i64 v)
  rw [ints_set] at k
  exact k
end
/-- The marks of the parts that are taken. -/
def tkC (R : List Nat) : Array Value := ((List.range 13).map (fun j => Value.bool (R.contains j))).toArray
theorem tkC_get (R : List Nat) {k : Nat} (hk : k < 13) : (tkC R)[k]? = some (.bool (R.contains k)) := by
  unfold tkC
  rw [List.getElem?_toArray, List.getElem?_map, List.getElem?_range hk]
  rfl
theorem tkC_set {R : List Nat} {i y : Nat} (h : R[i]? = some y) : (tkC (R.take i)).setIfInBounds y (.bool true) = tkC (R.take (i + 1)) := by
  apply Array.ext_getElem?
  intro k
  rw [ftake_succ h]
  by_cases hk : k < 13
  · rw [tkC_get _ hk, Array.getElem?_setIfInBounds, tkC_get _ hk]
    by_cases hy : y = k
    · subst hy
      have hs : y < (tkC (R.take i)).size := by simp [tkC, hk]
      rw [if_pos rfl, if_pos hs]
      simp
    · rw [if_neg hy]
      have : (R.take i ++ [y]).contains k = (R.take i).contains k := by
        rw [Bool.eq_iff_iff]
        simp [Ne.symm (Ne.intro hy)]
      rw [this]
  · rw [Array.getElem?_eq_none (by simp [tkC]; omega), Array.getElem?_eq_none (by simp [tkC]; omega)]
theorem tkC_nil : tkC [] = #[.bool false, .bool false, .bool false, .bool false, .bool false, .bool false, .bool false, .bool false, .bool false, .bool false, .bool false, .bool false, .bool false] := by rfl
/-- The boxes of a round: the first part, the message, the marks; the row of the chain. -/
structure RdS (w : World) (N : Nat) (wr : World) (h : Nat) (A3 : Option Addr) (n c3 : Nat) (nx : List Int) (A5 : Option Addr) (m5 c5 : Nat) (l : List Dat) (As : Option Addr) (q cs : Nat) (ms : List Msg) (Ac : Option Addr) (qc cc : Nat) (R : List Nat) (cY cM cT : Array Value) : Prop where
  L : AdL w wr h A3 n c3 nx A5 m5 c5 l As q cs ms
  y : Blk wr N cY 45
  m : Blk wr (N + 1) cM 64
  t : Blk wr (N + 2) cT 74
  o : Own wr (w.heap.size + 3) 3 1 Ac qc cc (nats R)
  bi : ∀ a, A3 = some a → a.block < N
  bp : ∀ a, A5 = some a → a.block < N
  bs : ∀ a, As = some a → a.block < N
  bo : ∀ a, Ac = some a → a.block < N
  bh : h < N
  bn : w.heap.size + 3 ≤ N
section
variable {w wr w' : World} {N h : Nat} {A3 : Option Addr} {n c3 : Nat} {nx : List Int} {A5 : Option Addr} {m5 c5 : Nat} {l : List Dat} {As : Option Addr} {q cs : Nat} {ms : List Msg} {Ac : Option Addr} {qc cc : Nat} {R : List Nat} {cY cM cT : Array Value}
theorem RdS.lt (U : RdS w N wr h A3 n c3 nx A5 m5 c5 l As q cs ms Ac qc cc R cY cM cT) : N + 3 ≤ wr.heap.size := U.t.lt
theorem RdS.start (L : AdL w wr h A3 n c3 nx A5 m5 c5 l As q cs ms) (o : Own wr (w.heap.size + 3) 3 1 Ac qc cc (nats R)) (cY cM cT : Array Value) :
    RdS w wr.heap.size (((wr.alloc (.cells cY 45)).drew.alloc (.cells cM 64)).alloc (.cells cT 74)) h A3 n c3 nx A5 m5 c5 l As q cs ms Ac qc cc R cY cM cT :=
  ⟨((L.alloc _).drew.alloc _).alloc _, ((Blk.new wr _ _).drew.alloc _).alloc _, by have k := (Blk.new ((wr.alloc (.cells cY 45)).drew) cM 64).alloc (.cells cT 74); simp only [World.size_drew, World.size_alloc] at k; exact k,
    by have k := Blk.new ((wr.alloc (.cells cY 45)).drew.alloc (.cells cM 64)) cT 74; simp only [World.size_drew, World.size_alloc] at k; exact k,
    ((o.alloc _).drew.alloc _).alloc _, fun a ha => (L.i.blk a ha).2.1, fun a ha => (L.p.blk a ha).2.1, fun a ha => (L.s.blk a ha).2.1, fun a ha => (o.blk a ha).2.1, L.h.lt, L.lt⟩
theorem RdS.drew (U : RdS w N wr h A3 n c3 nx A5 m5 c5 l As q cs ms Ac qc cc R cY cM cT) : RdS w N wr.drew h A3 n c3 nx A5 m5 c5 l As q cs ms Ac qc cc R cY cM cT := ⟨U.L.drew, U.y.drew, U.m.drew, U.t.drew, U.o.drew, U.bi, U.bp, U.bs, U.bo, U.bh, U.bn⟩
theorem RdS.alloc (U : RdS w N wr h A3 n c3 nx A5 m5 c5 l As q cs ms Ac qc cc R cY cM cT) (o : Obj) : RdS w N (wr.alloc o) h A3 n c3 nx A5 m5 c5 l As q cs ms Ac qc cc R cY cM cT := ⟨U.L.alloc o, U.y.alloc o, U.m.alloc o, U.t.alloc o, U.o.alloc o, U.bi, U.bp, U.bs, U.bo, U.bh, U.bn⟩
theorem RdS.setM (U : RdS w N wr h A3 n c3 nx A5 m5 c5 l As q cs ms Ac qc cc R cY cM cT) (i : Nat) (u : Value) : RdS w N (wr.setCell ⟨N + 1, i, none⟩ u) h A3 n c3 nx A5 m5 c5 l As q cs ms Ac qc cc R cY (cM.setIfInBounds i u) cT :=
  ⟨U.L.far U.m (by decide) (by decide) (.inr fun a ha => by have := U.bs a ha; omega) (by have := U.bh; omega) (by have := U.bn; omega) i u, U.y.far (p := ⟨N + 1, i, none⟩) (by show _ ≠ _ + _; omega) u, U.m.set_ i u, U.t.far (p := ⟨N + 1, i, none⟩) (by show _ + _ ≠ _ + _; omega) u, own_far U.o U.m (by decide) i u, U.bi, U.bp, U.bs, U.bo, U.bh, U.bn⟩
theorem RdS.setT (U : RdS w N wr h A3 n c3 nx A5 m5 c5 l As q cs ms Ac qc cc R cY cM cT) (i : Nat) (u : Value) : RdS w N (wr.setCell ⟨N + 2, i, none⟩ u) h A3 n c3 nx A5 m5 c5 l As q cs ms Ac qc cc R cY cM (cT.setIfInBounds i u) :=
  ⟨U.L.far U.t (by decide) (by decide) (.inl (by decide)) (by have := U.bh; omega) (by have := U.bn; omega) i u, U.y.far (p := ⟨N + 2, i, none⟩) (by show _ ≠ _ + _; omega) u, U.m.far (p := ⟨N + 2, i, none⟩) (by show _ + _ ≠ _ + _; omega) u, U.t.set_ i u, own_far U.o U.t (by decide) i u, U.bi, U.bp, U.bs, U.bo, U.bh, U.bn⟩
theorem RdS.grown (U : RdS w N wr h A3 n c3 nx A5 m5 c5 l As q cs ms Ac qc cc R cY cM cT) {row : Option Nat} (hg : wr.grownBy w' row) (hr : ∀ k, row = some k → N + 3 ≤ k) : RdS w N w' h A3 n c3 nx A5 m5 c5 l As q cs ms Ac qc cc R cY cM cT := by
  have ne : ∀ k, k < N + 3 → some k ≠ row := fun k hk e => by
    have := hr k e.symm
    omega
  have hh := U.bh
  have hn := U.bn
  exact ⟨⟨U.L.h.grown hg (ne _ (by omega)), U.L.z.grown hg (ne _ (by omega)), U.L.i.grown hg (fun a ha => ne _ (by have := U.bi a ha; omega)), U.L.p.grown hg (fun a ha => ne _ (by have := U.bp a ha; omega)), U.L.s.grown hg (fun a ha => ne _ (by have := U.bs a ha; omega)), U.L.b.grown hg U.L.b.size (fun k hk => by have := hr k hk; omega)⟩,
    U.y.grown hg (ne _ (by omega)), U.m.grown hg (ne _ (by omega)), U.t.grown hg (ne _ (by omega)), U.o.grown hg (fun a ha => ne _ (by have := U.bo a ha; omega)), U.bi, U.bp, U.bs, U.bo, U.bh, U.bn⟩
end
theorem int_nil (w : World) (a : Option Addr) (n c : Nat) : (binOp .eql 33 (.slice a n c) (.slice none 0 0)).run Try.prog w = .ok (.bool a.isNone) w := by
  simp only [binOp]
  simp [Op.equal, Op.maxDepth, Lib.run_equalIn_slice_nil w 9999 _ _ a n c 0 0 Try.underlying33]
theorem turn_next {nx : List Int} {d0 d2 : Int} {s : Nat} {d3 d4 : Bool} {d6 : ByteArray} (h : turnB nx ⟨d0, (s : Int), d2, d3, d4, false, d6⟩ = true) : nx[s]? = some d2 := by
  unfold turnB at h
  simp at h
  exact h.2
theorem due_turn {nx : List Int} {l : List Dat} {x : Nat} {c : List Nat} (hF : Fit nx l) (hD : dueP nx l = x :: c) : ∃ dd, l[x]? = some dd ∧ turnB nx dd = true ∧ (∀ y ∈ x :: c, y < l.length) ∧ (x :: c).length ≤ 13 := by
  rcases dueP_spec (nx := nx) hF.len (fun d hd => (hF.ok d hd).1) with h | ⟨x', c', d', h1, h2, h3, h4, h5⟩
  · rw [hD] at h; cases h
  · rw [hD] at h1; injection h1 with e1 e2; subst e1 e2; exact ⟨d', h2, h3, h4, h5⟩
end Go.Proofs.Ytkhaodbcnnlhaaa
