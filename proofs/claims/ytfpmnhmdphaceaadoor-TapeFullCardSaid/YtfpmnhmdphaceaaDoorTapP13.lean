/- What is sought in a whole file of a tape is found; what a tape keeps of events; plain lists, no program. -/
import Derived.Test.YtfpmnhmdphaceaaDoorTapPAll
import Derived.Test.YtfpmnhmdphaceaaDoorTap36
namespace Go.Proofs.YtfpmnhmdphaceaaDoor
open Go.EW
set_option linter.unusedVariables false
set_option linter.unusedSimpArgs false
attribute [local irreducible] crcL shaL sealL sealR openR
/-! a whole file's index, what is sought in it -/
/-- the chunks' places of a file -/
theorem lay_get (s : Stp) (ts : List Txt) {i : Nat} (hi : i < (chsOf ts).length) : (layT s ts).places[i]? = some (qOf (headF s) (chsOf ts) i) := by
  have := (lay_places (headF s) (chsOf ts) (chsOf ts).length (Nat.le_refl _)).2 i hi
  rw [List.take_length] at this
  exact this
theorem lay_cnt (s : Stp) (ts : List Txt) : (layT s ts).places.length = (chsOf ts).length := by
  have := (lay_places (headF s) (chsOf ts) (chsOf ts).length (Nat.le_refl _)).1
  rw [List.take_length] at this
  exact this
theorem q_all (s : Stp) (ts : List Txt) : qOf (headF s) (chsOf ts) (chsOf ts).length = (layT s ts).file.length := by unfold qOf; rw [List.take_length]; rfl
/-! what a tape of events keeps -/
theorem foldl_n (ts : List Txt) : ∀ t : TS, (ts.foldl addT t).n = t.n + ts.length := by
  induction ts with
  | nil => intro t; rfl
  | cons b ts ih => intro t; rw [List.foldl_cons, ih, addT_n, List.length_cons]; omega
theorem bytes_one {e : Evt} (he : EvOk e) (h : (putEv e).2 = 0) : (getEv (putEv e).1).2 = 0 ∧ (putEv e).1.length ≤ 20000 ∧ evOf (putEv e).1 = usedE e := by
  unfold evOf
  rw [getEv_put he h]
  have := putEv_len e
  exact ⟨rfl, by omega, rfl⟩
end Go.Proofs.YtfpmnhmdphaceaaDoor
