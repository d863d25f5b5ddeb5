/-
  'FnExactAsmRun' returns true for every input, and its arguments read as before. No condition.
-/
import Derived.Test.YtkhaodbcnnlhaaaWFnExactAsmRun
import Derived.Test.YtkhaodbcnnlhaaaFrameD
import Derived.Test.YtkhaodbcnnlhaaaHead
namespace Go.Proofs.Ytkhaodbcnnlhaaa.fnExactAsmRun
open Go.ChangeShapes Go.WideShapes Go.ChangeAt Go.RowKit Go.Joins
open Go.ChangeMaps (open_string shut_string)
set_option linter.unusedVariables false

set_option maxRecDepth 100000 in
theorem lifted (os : Os) (started : os.Started) (H : Type) (enc : TypeId × Value → H) :
    ReturnsInHanded {} Try.checked os 3 .any (Rows.fnExactAsmRunSpec.pre6 enc Try.prog Try.f3 Rows.fnExactAsmRunRow.domain false) (Rows.fnExactAsmRunSpec.post enc Try.prog Try.f3 false true false false) := by
  refine returnsInHanded_of_change (C := Try.checked) own started (by kernel_rfl) Try.func3
    (ChangeSpec.witness6 (enc := enc) (C := Try.checked) false ⟨#[], #[.int .i64 0, .slice none 0 0], []⟩ 8 (by kernel_rfl) (by kernel_rfl) (by kernel_rfl) (by kernel_rfl)) ?_
  intro W base args ds gs before hval0 hW hcnd _
  have hval : ∀ (j : Nat) t v, Try.f3.params[j]? = some t → args[j]? = some v → Value.okWide Try.prog W .any base t v := hval0
  have hW' := hW
  obtain ⟨p, q, hA0, hV, rfl, hfz, hnd⟩ := hW
  have hA : DataW.TrodAll enc Try.prog W 0 (fun _ => true) true Try.f3.params.toList args.toList ds p := hA0
  rw [Try.params3] at hA hval
  obtain ⟨v0, vs0, d0, ds0, p0, q0, hargs, rfl, rfl, h0, r0⟩ := trodAll_cons hA
  obtain ⟨v1, vs1, d1, ds1, p1, q1, rfl, rfl, rfl, h1, r1⟩ := trodAll_cons r0
  obtain ⟨rfl, rfl, rfl⟩ := trodAll_nil r1
  obtain rfl : args = #[v0, v1] := by cases args; simp_all
  obtain ⟨rfl, rfl⟩ := trodVars_none hV
  have k0 := h0
  have lt0 : ∀ x ∈ p0, x.block < W.heap.size := by obtain ⟨m, hm⟩ := k0; exact DataW.trod_lt m _ _ _ hm
  obtain ⟨a0, rfl, _, _, w0⟩ := open_int Try.underlying3 (hval 0 3 v0 rfl rfl) h0
  have k1 := h1
  have lt1 : ∀ x ∈ p1, x.block < W.heap.size := by obtain ⟨m, hm⟩ := k1; exact DataW.trod_lt m _ _ _ hm
  obtain ⟨A1, n1, c1, rfl⟩ := okWide_slice Try.underlying22 (hval 1 22 v1 rfl rfl)
  obtain ⟨A1', n1', c1', zs1, e1, hn1, hc1, hm1, hs1, ht1⟩ := (by obtain ⟨fuel, hf⟩ := h1; exact open_dats Try.underlying22 Try.underlying37 (by kernel_rfl) (by kernel_rfl) (by kernel_rfl) (by kernel_rfl) (by kernel_rfl) (by kernel_rfl) (by kernel_rfl) (by kernel_rfl) (by kernel_rfl) (by kernel_rfl) (by kernel_rfl) (by kernel_rfl) (by kernel_rfl) (by kernel_rfl) (by kernel_rfl) Try.underlying3 Try.underlying3 Try.underlying3 Try.underlying4 Try.underlying4 Try.underlying4 Try.underlying9 (by simpa [Value.cells] using hf) : ∃ (A : Option Addr) (n c : Nat) (l : List Dat), (Value.slice A1 n1 c1) = .slice A n c ∧ l.length = n ∧ n ≤ c ∧ c ≤ maxLen ∧ Sl W W.heap.size A (dats l) ∧ Dats l)
  injection e1 with e1a e1b e1c
  subst e1a e1b e1c
  clear hA0 hval0
  refine (walkFnExactAsmRun a0 A1 n1 c1 zs1 W (wf_i64 w0) hs1 hn1 hc1 hm1 ht1).mono fun e W' ⟨he, bel⟩ => ?_
  subst he
  exact ⟨_, rfl, _, _, _, [], _, [], hW', trodAll_mk1 (shut_bool Try.underlying4 _), (trodAll_cons_mk (Below.trod laidOut (by kernel_rfl) (of_decide_eq_true (by kernel_rfl)) k0 bel lt0) (trodAll_cons_mk (Below.trod laidOut (by kernel_rfl) (of_decide_eq_true (by kernel_rfl)) k1 bel lt1) trodAll_mk0)), rfl, bel.frame _, fun h => by cases h⟩

theorem closed_gen (P : Program) (h1 : P.mayEnter = true) (h2 : P.liftsFinal = false) (h3 : P.make = some .cut) (hP : Try.prog = P) : joinedFacts P 3 Try.f3 Rows.fnExactAsmRunSpec Rows.fnExactAsmRunRow = true := by
  unfold joinedFacts
  rw [h1, h2, h3]
  subst hP
  show _ = _
  kernel_rfl
theorem closed : joinedFacts Try.prog 3 Try.f3 Rows.fnExactAsmRunSpec Rows.fnExactAsmRunRow = true := closed_gen _ may_enter lifts_final make_cut rfl
theorem over : Rows.fnExactAsmRunRow.holds Try.pinned (OpenSpec.ofChange Rows.fnExactAsmRunSpec) :=
  OpenClaim.holds_of_wide 3 Try.f3 rfl rfl rfl rfl rfl rfl rfl ⟨rfl, rfl, rfl, rfl, rfl⟩ rfl rfl rfl rfl rfl (by kernel_rfl) Try.func3 closed
    (of_decide_eq_true (by kernel_rfl)) (by unfold Func.isWrapper; first | (rw [if_pos (by decide +kernel)]; kernel_rfl) | (rw [if_neg (by decide +kernel)]; exact ⟨rfl, rfl⟩))
    (fun os started H enc _ => lifted os started H enc)

theorem proved : Rows.FnExactAsmRunSaid := over
#print axioms proved
end Go.Proofs.Ytkhaodbcnnlhaaa.fnExactAsmRun
