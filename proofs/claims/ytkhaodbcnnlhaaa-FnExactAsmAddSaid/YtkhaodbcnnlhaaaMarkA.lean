/-
  Marks in an assembly, and that they are held; what an addition leaves behind. Conditions: those that each theorem bears.
-/
import Derived.Test.YtkhaodbcnnlhaaaMark
import Derived.Test.YtkhaodbcnnlhaaaAddP
namespace Go.Proofs.Ytkhaodbcnnlhaaa
open Go.ChangeShapes Go.WideShapes Go.ChangeAt Go.RowKit
set_option linter.unusedVariables false
set_option linter.unusedSimpArgs false
def MarkAPost (A : Option Addr) (n c : Nat) (A2 : Option Addr) (m d k base : Nat) (w : World) (e : Ending) (w' : World) : Prop :=
  e = .returned (.int .i64 ((k + n + 7 * m : Nat) : Int)) ∧ ∃ wm row1 row2, w.grownBy wm row1 ∧ AtRow A row1 ∧ Own wm base 3 1 A n c (ints (marks (k : Int) n)) ∧ wm.grownBy w' row2 ∧ AtRow A2 row2 ∧ Own w' base 45 7 A2 m d (dats (dmarks (k + n) m))
set_option maxHeartbeats 800000 in
theorem mark_asm2 (A : Option Addr) (n c : Nat) (zs : List Int) (A2 : Option Addr) (m d : Nat) (ps : List Dat) (k base : Nat) (w : World) (ho : Own w base 3 1 A n c (ints zs)) (hp : Own w base 45 7 A2 m d (dats ps)) (hk : k ≤ 50000000) (hn : n ≤ 1048576) (hm : m ≤ 1048576) :
    Calls Try.prog 22 #[.agg #[.slice A n c, .slice A2 m d], .int .i64 k] w (MarkAPost A n c A2 m d k base w) := by
  have HO := Lib.hid ho; have HP := Lib.hid hp; clear ho hp
  have hQ0 := Lib.hid (Blk.new w #[.slice A n c, .slice A2 m d] 41)
  go_enter Try.func22, Try.ntmps22
  go_wp2_with fail
  refine (mark_ints _ _ _ (k : Int) base zs _ (HO.out.alloc _) (by omega) (by omega)).mono ?_
  rintro e w1 ⟨rfl, o1, row, g1, r1⟩
  have Q1 := Lib.hid (blk_marked hQ0.out (HO.out.alloc _) (by decide) g1 r1)
  have x1 : w1.cell? ⟨w.heap.size, 1, none⟩ = some (.slice A2 m d) := Q1.out.get 1 rfl
  have hl1 := Q1.out.lt
  have P1 := Lib.hid (own_held (HP.out.alloc _) (HO.out.alloc _) (by decide) g1 r1)
  have O1 := Lib.hid o1
  have G1 := Lib.hid (gb_trans (World.grownBy_alloc w _ row) g1 (fun g e => .inl e))
  have R1 := Lib.hid r1
  clear o1 g1 r1
  go_wp2_with fail
  refine (mark_dats _ _ _ (k + n) base ps _ P1.out (by omega) (by omega)).mono ?_
  rintro e w2 ⟨rfl, o2, row2, g2, r2⟩
  have O2 := Lib.hid o2
  have G2 := Lib.hid g2
  have R2 := Lib.hid r2
  clear o2 g2 r2
  go_wp2
  go_ret
  exact ⟨rfl, w1, row, row2, G1.out, R1.out, O1.out, G2.out, R2.out, O2.out⟩
set_option maxHeartbeats 800000 in
theorem held_asm2 (A : Option Addr) (n c : Nat) (A2 : Option Addr) (m d k : Nat) (w : World) (hA : Sl w w.heap.size A (ints (marks (k : Int) n))) (hB : Sl w w.heap.size A2 (dats (dmarks (k + n) m))) (hk : k ≤ 50000000) (hn : n ≤ 1048576) (hm : m ≤ 1048576) :
    Calls Try.prog 23 #[.agg #[.slice A n c, .slice A2 m d], .int .i64 k] w fun e w' => e = .returned (.int .i64 ((k + n + 7 * m : Nat) : Int)) ∧ Below w.heap.size w w' := by
  have HA := Lib.hid hA; have HB := Lib.hid hB; clear hA hB
  have hk2 : ¬ ((k : Int) + (n : Int) < 0) := by omega
  have hk3 : ¬ (((k + n + 7 * m : Nat) : Int) < 0) := by omega
  go_enter Try.func23, Try.ntmps23
  go_wp2_with fail
  refine (held_ints _ _ _ _ _ ((HA.out.alloc (Nat.le_refl _) _).more (by simp)) (by omega) (by omega)).mono ?_
  rintro e w1 ⟨rfl, j, rfl⟩
  go_wp2_with fail
  refine (held_dats _ _ _ (k + n) _ (((HB.out.alloc (Nat.le_refl _) _).more (B' := (w.alloc _).heap.size) (by simp)).drewN j) (by omega) (by omega)).mono ?_
  rintro e w2 ⟨rfl, b2⟩
  have B2 := Lib.hid (bstep (below_drewN ((Below.refl _ w).alloc (Nat.le_refl _) _) j) b2 (by simp))
  clear b2
  go_wp2
  go_ret
  exact ⟨rfl, B2.out⟩
/-- What an addition leaves: the box of the assembly, the messages, the code. -/
def AddedTo (r : Added) (w0 : World) (v6 v7 v8 : Value) (wx : World) : Prop :=
  ∃ b6 A1 n1 c1 A3 m3 c3 As q cs, v6 = .pointer (some ⟨b6, 0, none⟩) ∧ v7 = .slice As q cs ∧ v8 = .int .i64 r.code ∧ r.zs.length = n1 ∧ r.ps.length = m3 ∧ r.ms.length = q ∧ Blk wx b6 #[.slice A1 n1 c1, .slice A3 m3 c3] 41 ∧ w0.heap.size ≤ b6 ∧
    Own wx w0.heap.size 3 1 A1 n1 c1 (ints r.zs) ∧ Own wx w0.heap.size 45 7 A3 m3 c3 (dats r.ps) ∧ Own wx w0.heap.size 64 4 As q cs (msgs r.ms) ∧ Below w0.heap.size w0 wx
section
variable {r : Added} {w0 w2 : World} {A1 : Option Addr} {n1 c1 : Nat} {A3 : Option Addr} {m3 c3 : Nat} {As : Option Addr} {q cs : Nat}
/-- The box was made last. -/
theorem added_last {base : Nat} (hb : w0.heap.size ≤ base) (h1 : r.zs.length = n1) (h2 : r.ps.length = m3) (h3 : r.ms.length = q) (o1 : Own w2 base 3 1 A1 n1 c1 (ints r.zs)) (o3 : Own w2 base 45 7 A3 m3 c3 (dats r.ps)) (os : Own w2 base 64 4 As q cs (msgs r.ms)) (b : Below w0.heap.size w0 w2) :
    AddedTo r w0 (.pointer (some ⟨w2.heap.size, 0, none⟩)) (.slice As q cs) (.int .i64 r.code) (w2.alloc (.cells #[.slice A1 n1 c1, .slice A3 m3 c3] 41)) :=
  ⟨_, A1, n1, c1, A3, m3, c3, As, q, cs, rfl, rfl, rfl, h1, h2, h3, Blk.new w2 _ _, b.size, (o1.lower hb).alloc _, (o3.lower hb).alloc _, (os.lower hb).alloc _, b.alloc b.size _⟩
/-- The box was made before. -/
theorem added_first {base g : Nat} (hb : w0.heap.size ≤ base) (h1 : r.zs.length = n1) (h2 : r.ps.length = m3) (h3 : r.ms.length = q) (o1 : Own w2 base 3 1 A1 n1 c1 (ints r.zs)) (o3 : Own w2 base 45 7 A3 m3 c3 (dats r.ps)) (os : Own w2 base 64 4 As q cs (msgs r.ms)) (b : Below w0.heap.size w0 w2)
    (hg : Blk w2 g #[.slice none 0 0, .slice none 0 0] 41) (hgb : w0.heap.size ≤ g) :
    AddedTo r w0 (.pointer (some ⟨g, 0, none⟩)) (.slice As q cs) (.int .i64 r.code) ((w2.setCell ⟨g, 0, none⟩ (.slice A1 n1 c1)).setCell ⟨g, 1, none⟩ (.slice A3 m3 c3)) := by
  have H1 := hg.set_ 0 (.slice A1 n1 c1)
  exact ⟨g, A1, n1, c1, A3, m3, c3, As, q, cs, rfl, rfl, rfl, h1, h2, h3, H1.set_ 1 (.slice A3 m3 c3), hgb, own_far (own_far (o1.lower hb) hg (by decide) 0 _) H1 (by decide) 1 _, own_far (own_far (o3.lower hb) hg (by decide) 0 _) H1 (by decide) 1 _, own_far (own_far (os.lower hb) hg (by decide) 0 _) H1 (by decide) 1 _, (b.setCell hgb _).setCell hgb _⟩
end
end Go.Proofs.Ytkhaodbcnnlhaaa
