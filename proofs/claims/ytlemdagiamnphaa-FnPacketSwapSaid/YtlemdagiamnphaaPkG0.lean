/-
  What is read of a packet's bytes, chunk by chunk, in plain Lean; shapes of what the readers return. No condition but those that each theorem bears.
-/
import Derived.Test.YtlemdagiamnphaaChkV
namespace Go.Proofs.Ytlemdagiamnphaa
open Go.ChangeShapes Go.WideShapes Go.ChangeAt Go.RowKit
set_option linter.unusedVariables false

theorem quiet_b {P : Program} {f : Nat} {args : Array Value} {v : Value} {w : World} (h : Calls P f args w (Quiet v w)) : Calls P f args w fun e w' => e = .returned v ∧ Below w.heap.size w w' :=
  h.mono fun _ _ ⟨h1, m, h2⟩ => ⟨h1, by rw [h2]; exact below_drewN (Below.refl _ _) m⟩
def gotten (l : List UInt8) : Int × Int × Int × List Chk × Int := if packCode l = 0 then (fromOf l, toOf l, tagOf l, (getOk l).getD [], 0) else (0, 0, 0, [], packCode l)
theorem gotten_no {l : List UInt8} {f t g k : Int} {cs : List Chk} (h : gotten l = (f, t, g, cs, k)) (hk : packCode l ≠ 0) : f = 0 ∧ t = 0 ∧ g = 0 ∧ cs = [] ∧ k = packCode l := by
  unfold gotten at h
  rw [if_neg hk] at h
  simp only [Prod.mk.injEq] at h
  obtain ⟨h1, h2, h3, h4, h5⟩ := h
  exact ⟨h1.symm, h2.symm, h3.symm, h4.symm, h5.symm⟩
theorem gotten_yes {l : List UInt8} {f t g k : Int} {cs : List Chk} (h : gotten l = (f, t, g, cs, k)) (hk : packCode l = 0) {ds : List Chk} (hd : getOk l = some ds) : f = fromOf l ∧ t = toOf l ∧ g = tagOf l ∧ cs = ds ∧ k = 0 := by
  unfold gotten at h
  rw [if_pos hk, hd] at h
  simp only [Prod.mk.injEq] at h
  obtain ⟨h1, h2, h3, h4, h5⟩ := h
  exact ⟨h1.symm, h2.symm, h3.symm, h4.symm, h5.symm⟩
/-- What has been read so far: the chunks ds, up to the place x. -/
def gotR (l : List UInt8) (ds : List Chk) (x : Nat) : Prop := ∃ f, l.length - x ≤ f ∧ getOk l = (chunksP f (l.drop x)).map (ds ++ ·)
theorem gotR_start {l : List UInt8} (h : 12 ≤ l.length) : gotR l [] 12 := ⟨l.length, by omega, by unfold getOk; cases chunksP l.length (l.drop 12) <;> rfl⟩
theorem gotR_step {l : List UInt8} {ds : List Chk} {x : Nat} (h : gotR l ds x) (hx : x < l.length) (hc : chunkOk (l.drop x)) : gotR l (ds ++ [chunkAt (l.drop x)]) (x + chunkN (l.drop x)) := by
  obtain ⟨f, hf, e⟩ := h
  obtain ⟨f, rfl⟩ : ∃ g, f = g + 1 := ⟨f - 1, by omega⟩
  have hne : l.drop x ≠ [] := fun e => by
    have := congrArg List.length e
    rw [List.length_drop] at this
    change l.length - x = 0 at this
    omega
  obtain ⟨n1, n2, _, _⟩ := chunkN_le hc
  refine ⟨f, by omega, ?_⟩
  rw [e, chunksP_yes f _ hne hc, List.drop_drop, Option.map_map]
  congr 1
  funext r
  simp
theorem gotR_bad {l : List UInt8} {ds : List Chk} {x : Nat} (h : gotR l ds x) (hx : x < l.length) (hc : ¬ chunkOk (l.drop x)) : getOk l = none := by
  obtain ⟨f, hf, e⟩ := h
  have hne : l.drop x ≠ [] := fun e => by
    have := congrArg List.length e
    rw [List.length_drop] at this
    change l.length - x = 0 at this
    omega
  rw [e, chunksP_no f _ hne hc]
  rfl
theorem gotR_end {l : List UInt8} {ds : List Chk} {x : Nat} (h : gotR l ds x) (hx : x = l.length) : getOk l = some ds := by
  obtain ⟨f, hf, e⟩ := h
  rw [e, hx, List.drop_length, chunksP_nil]
  simp
theorem allB_bods {l : List Chk} (h : ∀ c ∈ l, chunkB c = true) : Bods l := fun r hr => Nat.le_trans (chunkB_true (h r hr)).2.2.2.2 (by omega)
def PackG (f t g : Int) (cs : List Chk) (k : Int) (w : World) (e : Ending) (w' : World) : Prop :=
  ∃ A c, e = .returned (.tuple #[.agg #[.int .i64 f, .int .i64 t, .int .i64 g, .slice A cs.length c], .int .i64 k]) ∧ Own w' w.heap.size 46 3 A cs.length c (chks cs) ∧ Below w.heap.size w w'
theorem info_chk : (Try.prog.info? 46).map (fun i => (i.zero, i.size, i.bytes)) = some (some (.agg #[.int .i64 0, .int .i64 0, .string ⟨#[]⟩]), 3, 32) := by kernel_rfl
end Go.Proofs.Ytlemdagiamnphaa
