/- What is sought in a whole file of a tape is found; what a tape keeps of events; plain lists, no program. -/
import Derived.Test.YtfpmnhmdphaceaaDoorTapPAll
import Derived.Test.YtfpmnhmdphaceaaDoorTap36
namespace Go.Proofs.YtfpmnhmdphaceaaDoor
open Go.EW
set_option linter.unusedVariables false
set_option linter.unusedSimpArgs false
attribute [local irreducible] crcL shaL sealL sealR openR
/-! a whole file's index, what is sought in it -/
/-- the chunks' places of a file -/
theorem lay_get (s : Stp) (ts : List Txt) {i : Nat} (hi : i < (chsOf ts).length) : (layT s ts).places[i]? = some (qOf (headF s) (chsOf ts) i) := by
  have := (lay_places (headF s) (chsOf ts) (chsOf ts).length (Nat.le_refl _)).2 i hi
  rw [List.take_length] at this
  exact this
theorem lay_cnt (s : Stp) (ts : List Txt) : (layT s ts).places.length = (chsOf ts).length := by
  have := (lay_places (headF s) (chsOf ts) (chsOf ts).length (Nat.le_refl _)).1
  rw [List.take_length] at this
  exact this
theorem q_all (s : Stp) (ts : List Txt) : qOf (headF s) (chsOf ts) (chsOf ts).length = (layT s ts).file.length := by unfold qOf; rw [List.take_length]; rfl
theorem file_form {s : Stp} {ts : List Txt} (ht : TsOk ts) (hn : ts.length ≤ 4096) : fileL s ts = (layT s ts).file ++ (sealL (footB ts.length (layT s ts).places (layT s ts).file) ++ be4 ((footB ts.length (layT s ts).places (layT s ts).file).length + 12)) := by
  obtain ⟨hl, hf, hfc⟩ := footF_ok s ht.len hn
  unfold fileL; rw [hfc, seal_len, List.append_assoc]
/-! what a tape of events keeps -/
/-- the first events that a tape takes -/
def takenN (es : List Evt) (i : Nat) : List Evt := (es.take i).filter fun e => (putEv e).2 == 0
def bytesN (es : List Evt) (i : Nat) : List Txt := (takenN es i).map fun e => (putEv e).1
theorem taken_len (es : List Evt) (i : Nat) : (takenN es i).length ≤ i := by
  unfold takenN
  have := List.length_filter_le (fun e => (putEv e).2 == 0) (es.take i)
  rw [List.length_take] at this; omega
theorem taken_ok {es : List Evt} {i : Nat} {e : Evt} (h : e ∈ takenN es i) : e ∈ es ∧ (putEv e).2 = 0 := by
  unfold takenN at h
  obtain ⟨h1, h2⟩ := List.mem_filter.1 h
  exact ⟨List.mem_of_mem_take h1, eq_of_beq h2⟩
theorem bytes_ok {es : List Evt} (he : ∀ e ∈ es, EvOk e) (i : Nat) : TsOk (bytesN es i) := ⟨fun t ht => by
  obtain ⟨e, h1, rfl⟩ := List.mem_map.1 ht
  obtain ⟨h2, h3⟩ := taken_ok h1
  rw [getEv_put (he e h2) h3]
  have := putEv_len e
  exact ⟨rfl, by omega⟩⟩
theorem bytes_ev {es : List Evt} (he : ∀ e ∈ es, EvOk e) (i : Nat) : (bytesN es i).map evOf = (takenN es i).map usedE := by
  unfold bytesN
  rw [List.map_map]
  refine List.map_congr_left fun e h1 => ?_
  obtain ⟨h2, h3⟩ := taken_ok h1
  show (getEv (putEv e).1).1 = usedE e
  rw [getEv_put (he e h2) h3]
theorem foldl_n (ts : List Txt) : ∀ t : TS, (ts.foldl addT t).n = t.n + ts.length := by
  induction ts with
  | nil => intro t; rfl
  | cons b ts ih => intro t; rw [List.foldl_cons, ih, addT_n, List.length_cons]; omega
theorem made_form (s : Stp) (es : List Evt) : ∀ i, i ≤ 4096 → i ≤ es.length → madeG s es i = ((bytesN es i).foldl addT (newT s), (takenN es i).map usedE)
  | 0, _, _ => by unfold bytesN takenN; rw [List.take_zero]; rfl
  | i + 1, h4, hi => by
    have ih := made_form s es i (by omega) (by omega)
    have hn := foldl_n (bytesN es i) (newT s)
    have hl : (bytesN es i).length ≤ i := by unfold bytesN; rw [List.length_map]; exact taken_len es i
    have h0 : (newT s).n = 0 := rfl
    have ht : takenN es (i + 1) = takenN es i ++ [es[i]].filter (fun e => (putEv e).2 == 0) := by
      unfold takenN; rw [List.take_succ_eq_append_getElem (by omega), List.filter_append]
    rw [madeG, List.getElem?_eq_getElem (show i < es.length by omega), ih]
    simp only []
    by_cases hp : (putEv es[i]).2 = 0
    · have hb : bytesN es (i + 1) = bytesN es i ++ [(putEv es[i]).1] := by
        unfold bytesN; rw [ht, List.map_append, List.filter_cons_of_pos (by simpa using hp)]; rfl
      rw [addRT_ok hp (by omega), if_pos rfl, hb, List.foldl_append, ht, List.map_append, List.filter_cons_of_pos (by simpa using hp)]
      rfl
    have hb : bytesN es (i + 1) = bytesN es i := by
      unfold bytesN; rw [ht, List.map_append, List.filter_cons_of_neg (by simpa using hp)]; simp
    have ha : addRT ((bytesN es i).foldl addT (newT s)) es[i] = ((putEv es[i]).2, (bytesN es i).foldl addT (newT s)) := by unfold addRT; rw [if_pos hp]
    rw [ha, if_neg hp, hb, ht, List.map_append, List.filter_cons_of_neg (by simpa using hp)]
    simp
theorem fileT_len {t : TS} (h : TOk2 t) : (fileT t).length ≤ 140737488351232 := by
  have h1 := outT_len h.ok
  have h2 : (footC t.n (plT t) (outT t)).length ≤ 32768 := seal_le _
  unfold fileT
  rw [List.length_append, List.length_append, be4_len]; omega
end Go.Proofs.YtfpmnhmdphaceaaDoor
