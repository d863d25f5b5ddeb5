/-
  Rows of messages: their cells. Conditions: those that each theorem bears.
-/
import Derived.Test.YtkhaodbcnnlhaaaNum
import Derived.Test.YtkhaodbcnnlhaaaFlat
namespace Go.Proofs.Ytkhaodbcnnlhaaa
open Go.ChangeShapes Go.WideShapes Go.ChangeAt Go.RowKit
set_option linter.unusedVariables false
set_option linter.unusedSimpArgs false
structure Msg where
  stream : Int
  ssn : Int
  loose : Bool
  text : ByteArray
def msgC (d : Msg) : List Value := [.int .i64 d.stream, .int .i64 d.ssn, .bool d.loose, .string d.text]
theorem msgC_len (d : Msg) : (msgC d).length = 4 := rfl
def msgs (l : List Msg) : List Value := l.flatMap msgC
theorem msgs_len (l : List Msg) : (msgs l).length = l.length * 4 := flat_len msgC 4 msgC_len l
theorem msgs_one (l : List Msg) : ∀ u ∈ msgs l, u.oneCell' = true := flat_one (fun g u hu => by
  unfold msgC at hu
  simp at hu
  rcases hu with rfl | rfl | rfl | rfl <;> rfl)
theorem msgs_app (a b : List Msg) : msgs (a ++ b) = msgs a ++ msgs b := by unfold msgs; rw [List.flatMap_append]
structure MsgAt (w : World) (b o : Nat) (d : Msg) : Prop where
  e0 : w.cell? ⟨b, o, none⟩ = some (.int .i64 d.stream)
  e1 : w.cell? ⟨b, o + 1, none⟩ = some (.int .i64 d.ssn)
  e2 : w.cell? ⟨b, o + 2, none⟩ = some (.bool d.loose)
  e3 : w.cell? ⟨b, o + 3, none⟩ = some (.string d.text)
theorem msgs_elem {w : World} {B : Nat} {A : Option Addr} {l : List Msg} (hs : Sl w B A (msgs l)) {i : Nat} {d : Msg} (h : l[i]? = some d) :
    ∃ b off, A = some ⟨b, off, none⟩ ∧ b < B ∧ MsgAt w b (off + i * 4) d := by
  obtain ⟨b, off, e, hb, hc⟩ := hs.elem msgC_len (by omega) h
  exact ⟨b, off, e, hb, hc 0 _ rfl, hc 1 _ rfl, hc 2 _ rfl, hc 3 _ rfl⟩
theorem info_msg : (Try.prog.info? 64).map (fun i => (i.zero, i.size, i.bytes)) = some (some (.agg #[.int .i64 0, .int .i64 0, .bool false, .string ⟨#[]⟩]), 4, 40) := by kernel_rfl
end Go.Proofs.Ytkhaodbcnnlhaaa
