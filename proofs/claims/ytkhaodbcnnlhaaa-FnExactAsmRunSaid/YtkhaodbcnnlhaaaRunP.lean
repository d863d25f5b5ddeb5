/-
  What a run of an assembly says, in plain Lean. Conditions: those that each theorem bears.
-/
import Derived.Test.YtkhaodbcnnlhaaaAddP
import Derived.Test.YtkhaodbcnnlhaaaAsmNew
import Derived.Test.YtkhaodbcnnlhaaaAsmL
namespace Go.Proofs.Ytkhaodbcnnlhaaa
open Go.ChangeShapes Go.WideShapes Go.ChangeAt Go.RowKit
set_option linter.unusedVariables false
set_option linter.unusedSimpArgs false
/-- All messages of the parts of a list, one after the other. -/
def runL : List Dat → List Int → List Dat → List Msg → List Msg
  | [], _, _, out => out
  | d :: l, nx, ps, out => if (addA nx ps d).code = 0 then runL l (addA nx ps d).zs (addA nx ps d).ps (out ++ (addA nx ps d).ms) else runL l nx ps out
section
variable {l : List Dat} {k : Nat} {d : Dat} {nx : List Int} {ps : List Dat} {out : List Msg} {r : Added}
theorem runL_done (h : l[k]? = some d) (hr : addA nx ps d = r) (hc : r.code = 0) : runL (l.drop k) nx ps out = runL (l.drop (k + 1)) r.zs r.ps (out ++ r.ms) := by
  rw [List.drop_eq_getElem_cons (List.getElem?_eq_some_iff.1 h).1, (List.getElem?_eq_some_iff.1 h).2, runL, hr, if_pos hc]
theorem runL_not (h : l[k]? = some d) (hr : addA nx ps d = r) (hc : ¬ r.code = 0) : runL (l.drop k) nx ps out = runL (l.drop (k + 1)) nx ps out := by
  rw [List.drop_eq_getElem_cons (List.getElem?_eq_some_iff.1 h).1, (List.getElem?_eq_some_iff.1 h).2, runL, hr, if_neg hc]
theorem runL_end (h : l.length ≤ k) : runL (l.drop k) nx ps out = out := by rw [List.drop_eq_nil_of_le h]; rfl
theorem runA_count : ∀ (f : Nat) (nx : List Int) (ps : List Dat) (said : List Msg), (runA f nx ps said).2.2.length + (runA f nx ps said).2.1.length ≤ said.length + ps.length
  | 0, nx, ps, said => Nat.le_refl _
  | f + 1, nx, ps, said => by
    rw [runA]
    split
    · exact Nat.le_refl _
    · split
      · exact Nat.le_refl _
      · rename_i x c _ _ d hd
        have h := runA_count f (nextA nx d) (restA (x :: c) ps 0) (said ++ [msgA ps d (x :: c)])
        have h2 := rest_less (c := c) hd
        rw [List.length_append, List.length_singleton] at h
        omega
/-- What a part brings: a code; where nothing is taken, no message and, but for bad arguments, the same assembly. -/
theorem add_codes (nx : List Int) (ps : List Dat) (d : Dat) : ((addA nx ps d).code = 0 ∧ (addA nx ps d).ms.length + (addA nx ps d).ps.length ≤ ps.length + 1) ∨
    ((addA nx ps d).code = 3 ∧ (addA nx ps d).ms = []) ∨ ((addA nx ps d).code ≠ 0 ∧ (addA nx ps d).code ≠ 3 ∧ (addA nx ps d).zs = nx ∧ (addA nx ps d).ps = ps ∧ (addA nx ps d).ms = []) := by
  unfold addA
  split
  · split
    · exact .inr (.inr ⟨by show ¬ (1 : Int) = 0; decide, by show ¬ (1 : Int) = 3; decide, rfl, rfl, rfl⟩)
    · split
      · exact .inr (.inr ⟨by show ¬ (2 : Int) = 0; decide, by show ¬ (2 : Int) = 3; decide, rfl, rfl, rfl⟩)
      · refine .inl ⟨rfl, ?_⟩
        have h := runA_count 14 nx (ps ++ [d]) []
        rw [List.length_append, List.length_singleton] at h
        simp only [List.length_nil] at h
        show (runA 14 nx (ps ++ [d]) []).2.2.length + (runA 14 nx (ps ++ [d]) []).2.1.length ≤ ps.length + 1
        omega
  · exact .inr (.inl ⟨rfl, rfl⟩)
/-- What the rounds keep. -/
structure RunFit (k : Nat) (l : List Dat) (nx : List Int) (ps : List Dat) (out : List Msg) : Prop where
  hnx : nx.length ≤ 4
  hps : ps.length ≤ 13
  ht : Dats ps
  cnt : out.length + ps.length ≤ k
theorem runFit_done (hF : RunFit k l nx ps out) (ht : Dats l) (h : l[k]? = some d) (hr : addA nx ps d = r) (hc : r.code = 0) : RunFit (k + 1) l r.zs r.ps (out ++ r.ms) := by
  subst hr
  obtain ⟨h1, h2, h3, h4⟩ := add_lens (zs := nx) (ps := ps) (d := d)
  have hcn := hF.cnt
  have h0 := hF.hnx
  refine ⟨by omega, h2, fun e he => ?_, ?_⟩
  · rcases h4 e he with h5 | rfl
    · exact hF.ht e h5
    · exact ht _ (List.mem_of_getElem? h)
  · rw [List.length_append]
    rcases add_codes nx ps d with ⟨_, h5⟩ | ⟨h5, _⟩ | ⟨h5, _⟩
    · omega
    · rw [h5] at hc; cases hc
    · exact absurd hc h5
theorem run_taken (hF : RunFit k l nx ps out) (ht : Dats l) (h : l[k]? = some d) (hr : addA nx ps d = r) (hc : ¬ r.code = 3) : RunFit (k + 1) l r.zs r.ps (out ++ r.ms) ∧ runL (l.drop k) nx ps out = runL (l.drop (k + 1)) r.zs r.ps (out ++ r.ms) := by
  by_cases h0 : r.code = 0
  · exact ⟨runFit_done hF ht h hr h0, runL_done h hr h0⟩
  · have hq := runL_not (out := out) h hr h0
    subst hr
    rcases add_codes nx ps d with ⟨h5, _⟩ | ⟨h5, _⟩ | ⟨_, _, h6, h7, h8⟩
    · exact absurd h5 h0
    · exact absurd h5 hc
    · rw [h6, h7, h8, List.append_nil]
      exact ⟨⟨hF.hnx, hF.hps, hF.ht, by have := hF.cnt; omega⟩, hq⟩
theorem run_bad (h : l[k]? = some d) (hr : addA nx ps d = r) (hc : r.code = 3) : r.ms = [] ∧ runL (l.drop k) nx ps out = runL (l.drop (k + 1)) nx ps out := by
  have hq := runL_not (out := out) h hr (by rw [hc]; decide)
  subst hr
  rcases add_codes nx ps d with ⟨h5, _⟩ | ⟨_, h5⟩ | ⟨_, h5, _⟩
  · rw [hc] at h5; cases h5
  · exact ⟨h5, hq⟩
  · exact absurd hc h5
theorem RunFit.next (hF : RunFit k l nx ps out) : RunFit (k + 1) l nx ps out := ⟨hF.hnx, hF.hps, hF.ht, by have := hF.cnt; omega⟩
end
def runM (s : Int) (l : List Dat) : List Msg := if 1 ≤ s ∧ s ≤ 4 then runL l (List.replicate s.toNat 0) [] [] else []
theorem runFit_start (l : List Dat) (n : Nat) (hn : n ≤ 4) : RunFit 0 l (List.replicate n 0) [] [] := ⟨by rw [List.length_replicate]; exact hn, Nat.zero_le _, fun d hd => by simp at hd, Nat.le_refl _⟩
theorem runL_len : ∀ (l : List Dat) (nx : List Int) (ps : List Dat) (out : List Msg), (runL l nx ps out).length ≤ out.length + ps.length + l.length
  | [], nx, ps, out => by rw [runL]; simp only [List.length_nil]; omega
  | d :: l, nx, ps, out => by
    rw [runL]
    split
    · rename_i hc
      have h := runL_len l (addA nx ps d).zs (addA nx ps d).ps (out ++ (addA nx ps d).ms)
      rw [List.length_append] at h
      rw [List.length_cons]
      rcases add_codes nx ps d with ⟨_, h5⟩ | ⟨h5, _⟩ | ⟨h5, _⟩
      · omega
      · rw [h5] at hc; cases hc
      · exact absurd hc h5
    · have h := runL_len l nx ps out
      rw [List.length_cons]
      omega
theorem runM_len (s : Int) (l : List Dat) : (runM s l).length ≤ l.length := by
  unfold runM
  split
  · have := runL_len l (List.replicate s.toNat 0) [] []
    simpa using this
  · exact Nat.zero_le _
def MadeM (l : List Msg) (w : World) (e : Ending) (w' : World) : Prop :=
  ∃ A n c, e = .returned (.slice A n c) ∧ l.length = n ∧ Own w' w.heap.size 64 4 A n c (msgs l) ∧ Below w.heap.size w w'
end Go.Proofs.Ytkhaodbcnnlhaaa
