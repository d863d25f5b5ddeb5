/-
  'FnSackSeen' returns true for every input, and its arguments read as before. No condition.
-/
import Derived.Test.YthmbapmakihmaaaWFnSackSeen
import Derived.Test.YthmbapmakihmaaaFrame
import Derived.Test.YthmbapmakihmaaaHead
namespace Go.Proofs.Ythmbapmakihmaaa.fnSackSeen
open Go.ChangeShapes Go.WideShapes Go.ChangeAt Go.RowKit Go.Joins
open Go.ChangeMaps (open_string shut_string)
set_option linter.unusedVariables false

set_option maxRecDepth 100000 in
theorem lifted (os : Os) (started : os.Started) (H : Type) (enc : TypeId × Value → H) :
    ReturnsInHanded {} Try.checked os 3 .any (Rows.fnSackSeenSpec.pre6 enc Try.prog Try.f3 Rows.fnSackSeenRow.domain false) (Rows.fnSackSeenSpec.post enc Try.prog Try.f3 false true false false) := by
  refine returnsInHanded_of_change (C := Try.checked) own started (by kernel_rfl) Try.func3
    (ChangeSpec.witness6 (enc := enc) (C := Try.checked) false ⟨#[], #[.slice none 0 0], []⟩ 8 (by kernel_rfl) (by kernel_rfl) (by kernel_rfl) (by kernel_rfl)) ?_
  intro W base args ds gs before hval0 hW hcnd _
  have hval : ∀ (j : Nat) t v, Try.f3.params[j]? = some t → args[j]? = some v → Value.okWide Try.prog W .any base t v := hval0
  have hW' := hW
  obtain ⟨p, q, hA0, hV, rfl, hfz, hnd⟩ := hW
  have hA : DataW.TrodAll enc Try.prog W 0 (fun _ => true) true Try.f3.params.toList args.toList ds p := hA0
  rw [Try.params3] at hA hval
  obtain ⟨v0, vs0, d0, ds0, p0, q0, hargs, rfl, rfl, h0, r0⟩ := trodAll_cons hA
  obtain ⟨rfl, rfl, rfl⟩ := trodAll_nil r0
  obtain rfl : args = #[v0] := by cases args; simp_all
  obtain ⟨rfl, rfl⟩ := trodVars_none hV
  have k0 := h0
  have lt0 : ∀ x ∈ p0, x.block < W.heap.size := by obtain ⟨m, hm⟩ := k0; exact DataW.trod_lt m _ _ _ hm
  obtain ⟨A0, n0, c0, rfl⟩ := okWide_slice Try.underlying22 (hval 0 22 v0 rfl rfl)
  obtain ⟨A0', n0', c0', zs0, e0, hn0, hc0, hm0, hs0, hz0⟩ := (by obtain ⟨fuel, hf⟩ := h0; exact open_row Try.underlying22 Try.underlying5 (by kernel_rfl) (by simpa [Value.cells] using hf) : ∃ (A : Option Addr) (n c : Nat) (zs : List Int), (Value.slice A0 n0 c0) = .slice A n c ∧ zs.length = n ∧ n ≤ c ∧ c ≤ maxLen ∧ Sl W W.heap.size A (zs.map (Value.int .u8)) ∧ ∀ z ∈ zs, (Lit.int .u8 z).wf = true)
  injection e0 with e0a e0b e0c
  subst e0a e0b e0c
  clear hA0 hval0
  refine (walkFnSackSeen A0 n0 c0 W ⟨hc0, hm0, zs0, hn0, hs0, fun z hz => wf_u8 (hz0 z hz)⟩).mono fun e W' ⟨he, bel⟩ => ?_
  subst he
  exact ⟨_, rfl, _, _, _, [], _, [], hW', trodAll_mk1 (shut_bool Try.underlying4 _), (trodAll_cons_mk (Below.trod laidOut (by kernel_rfl) (of_decide_eq_true (by kernel_rfl)) k0 bel lt0) trodAll_mk0), rfl, bel.frame _, fun h => by cases h⟩

theorem closed_gen (P : Program) (h1 : P.mayEnter = true) (h2 : P.liftsFinal = false) (h3 : P.make = some .cut) (hP : Try.prog = P) : joinedFacts P 3 Try.f3 Rows.fnSackSeenSpec Rows.fnSackSeenRow = true := by
  unfold joinedFacts
  rw [h1, h2, h3]
  subst hP
  show _ = _
  kernel_rfl
theorem closed : joinedFacts Try.prog 3 Try.f3 Rows.fnSackSeenSpec Rows.fnSackSeenRow = true := closed_gen _ may_enter lifts_final make_cut rfl
theorem over : Rows.fnSackSeenRow.holds Try.pinned (OpenSpec.ofChange Rows.fnSackSeenSpec) :=
  OpenClaim.holds_of_wide 3 Try.f3 rfl rfl rfl rfl rfl rfl rfl ⟨rfl, rfl, rfl, rfl, rfl⟩ rfl rfl rfl rfl rfl (by kernel_rfl) Try.func3 closed
    (of_decide_eq_true (by kernel_rfl)) (by unfold Func.isWrapper; first | (rw [if_pos (by decide +kernel)]; kernel_rfl) | (rw [if_neg (by decide +kernel)]; exact ⟨rfl, rfl⟩))
    (fun os started H enc _ => lifted os started H enc)

theorem proved : Rows.FnSackSeenSaid := over
#print axioms proved
end Go.Proofs.Ythmbapmakihmaaa.fnSackSeen
