/- What is sought in a whole file of a tape is found; what a tape keeps of events; plain lists, no program. -/
import Derived.Test.YtfpmnhmdphaceaaDoorTapPAll
import Derived.Test.YtfpmnhmdphaceaaDoorTap36
namespace Go.Proofs.YtfpmnhmdphaceaaDoor
open Go.EW
set_option linter.unusedVariables false
set_option linter.unusedSimpArgs false
attribute [local irreducible] crcL shaL sealL sealR openR
/-! a whole file's index, what is sought in it -/
theorem plGo_all {l : List Nat} {m : Nat} (h1 : ∀ (i : Nat) (hi : i < l.length), 1 ≤ l[i] ∧ l[i] < m) (h2 : ∀ (i : Nat) (hi : i + 1 < l.length), l[i] < l[i + 1]) : ∀ i, i ≤ l.length → plGo l m i = true
  | 0, _ => rfl
  | i + 1, hi => by
    refine plGo_step hi (plGo_all h1 h2 i (by omega)) ?_ ?_ ?_
    · have := (h1 i hi).1; omega
    · have := (h1 i hi).2; omega
    intro h0
    obtain ⟨j, rfl⟩ : ∃ j, i = j + 1 := ⟨i - 1, by omega⟩
    have := h2 j hi
    rw [Nat.add_sub_cancel]
    have e : l.getD j 0 = l[j] := by simp [List.getD, show j < l.length by omega]
    omega
/-- the chunks' places of a file -/
theorem lay_get (s : Stp) (ts : List Txt) {i : Nat} (hi : i < (chsOf ts).length) : (layT s ts).places[i]? = some (qOf (headF s) (chsOf ts) i) := by
  have := (lay_places (headF s) (chsOf ts) (chsOf ts).length (Nat.le_refl _)).2 i hi
  rw [List.take_length] at this
  exact this
theorem lay_cnt (s : Stp) (ts : List Txt) : (layT s ts).places.length = (chsOf ts).length := by
  have := (lay_places (headF s) (chsOf ts) (chsOf ts).length (Nat.le_refl _)).1
  rw [List.take_length] at this
  exact this
theorem lay_getD (s : Stp) (ts : List Txt) {i : Nat} (hi : i < (chsOf ts).length) : (layT s ts).places.getD i 0 = qOf (headF s) (chsOf ts) i := by
  rw [List.getD, lay_get s ts hi]; rfl
theorem q_all (s : Stp) (ts : List Txt) : qOf (headF s) (chsOf ts) (chsOf ts).length = (layT s ts).file.length := by unfold qOf; rw [List.take_length]; rfl
theorem q_step {s : Stp} {ts : List Txt} (ht : TsOk ts) {i : Nat} (hi : i < (chsOf ts).length) : qOf (headF s) (chsOf ts) i + 12 ≤ qOf (headF s) (chsOf ts) (i + 1) := by
  have hc : (chsOf ts)[i]? = some (chsOf ts)[i] := List.getElem?_eq_getElem hi
  rw [q_succ hc ((grd_all ht.len).ok i _ hc).size]; omega
theorem file_form {s : Stp} {ts : List Txt} (ht : TsOk ts) (hn : ts.length ≤ 4096) : fileL s ts = (layT s ts).file ++ (sealL (footB ts.length (layT s ts).places (layT s ts).file) ++ be4 ((footB ts.length (layT s ts).places (layT s ts).file).length + 12)) := by
  obtain ⟨hl, hf, hfc⟩ := footF_ok s ht.len hn
  unfold fileL; rw [hfc, seal_len, List.append_assoc]
theorem head_pos {s : Stp} (hc : chkS s = 0) : 12 ≤ (headF s).length := by rw [headF_seal hc, seal_len]; omega
theorem index_file {s : Stp} (hc : chkS s = 0) {ts : List Txt} (ht : TsOk ts) (hn : ts.length ≤ 4096) : indexR (fileL s ts) = (ts.length, (layT s ts).places, 0) := by
  obtain ⟨hl, hf, hfc⟩ := footF_ok s ht.len hn
  have hfile := file_form (s := s) ht hn
  generalize hFB : footB ts.length (layT s ts).places (layT s ts).file = FB at *
  have e4 : ∀ x, (be4 x).length = 4 := fun _ => rfl
  have hlen : (fileL s ts).length = (layT s ts).file.length + (FB.length + 12) + 4 := by
    rw [hfile, List.length_append, List.length_append, seal_len, e4]; omega
  have hN : idxN (fileL s ts) = FB.length + 12 := by
    unfold idxN
    rw [hlen, hfile, ← List.append_assoc, List.drop_left' (by rw [List.length_append, seal_len]; omega)]
    exact num_be4 (by omega)
  have hT : idxT (fileL s ts) = sealL FB := by
    unfold idxT
    rw [hN, hlen, hfile, List.drop_left' (by omega), List.take_left' (seal_len _)]
  have hO : openR (idxT (fileL s ts)) = (FB, 0) := by rw [hT]; exact openR_seal hl
  have hgood := index_good (bs := fileL s ts) (by omega) (by rw [hN]; omega) (by rw [hO]) (by
    rw [hO, hN, hf, hlen]
    rintro (h | h | h)
    · cases h
    · refine h ⟨fun h0 => ?_, fun h0 => ?_⟩
      · have h0 : ts.length = 0 := h0
        rw [show ts = [] from List.length_eq_zero_iff.1 h0]; rfl
      have h0 : (layT s ts).places.length = 0 := h0
      rw [lay_cnt] at h0
      show ts.length = 0
      rw [← flat_all ts, List.length_eq_zero_iff.1 h0]; rfl
    have hg := plGo_all (l := (layT s ts).places) (m := (layT s ts).file.length + (FB.length + 12) + 4 - 4 - (FB.length + 12)) (fun i hi => ?_) (fun i hi => ?_) (layT s ts).places.length (Nat.le_refl _)
    · rw [hg] at h; cases h
    · rw [lay_cnt] at hi
      have e := lay_get s ts hi
      rw [List.getElem?_eq_getElem (by rw [lay_cnt]; exact hi)] at e
      have e := Option.some.inj e
      rw [e]
      have h1 := head_pos hc
      have h2 : (headF s).length ≤ qOf (headF s) (chsOf ts) i := by rw [← q_zero (headF s) (chsOf ts)]; exact q_mono (Nat.zero_le _)
      have h3 := q_step (s := s) ht hi
      have h4 : qOf (headF s) (chsOf ts) (i + 1) ≤ (layT s ts).file.length := by rw [← q_all]; exact q_mono hi
      omega
    have hi' : i + 1 < (chsOf ts).length := by rw [← lay_cnt s]; exact hi
    have e := lay_get s ts (show i < (chsOf ts).length by omega)
    have e2 := lay_get s ts hi'
    rw [List.getElem?_eq_getElem (by omega)] at e
    rw [List.getElem?_eq_getElem hi] at e2
    rw [Option.some.inj e, Option.some.inj e2]
    have := q_step (s := s) ht (show i < (chsOf ts).length by omega)
    omega)
  rw [hgood, hO, hf]
/-- the chunk at a chunk's place -/
theorem chunkAt_file {s : Stp} {ts : List Txt} (ht : TsOk ts) (hn : ts.length ≤ 4096) {i : Nat} (hi : i < (chsOf ts).length) : chunkAtR (fileL s ts) ((layT s ts).places.getD i 0) = some (cnt ((chsOf ts).take i), (chsOf ts)[i].map evOf) := by
  have hc : (chsOf ts)[i]? = some (chsOf ts)[i] := List.getElem?_eq_getElem hi
  have ok := (grd_all ht.len).ok i _ hc
  have hp : (layL (headF s) ((chsOf ts).take (i + 1))).file <+: fileL s ts := (lay_pre_all _ _ _).trans (by rw [file_form ht hn]; exact List.prefix_append _ _)
  have hb := body_q hc ok hp
  have hm : maxI = 9223372036854775807 := rfl
  have h1 := cnt_mono (cs := chsOf ts) (i := i)
  rw [cnt_all] at h1
  have hev := eventsR_chunk (f := cnt ((chsOf ts).take i)) (ts := (chsOf ts)[i]) (by omega) ok.pos ok.cnt (good_chunk hc (by rw [flat_all]; exact ht.goodT))
  rw [lay_getD s ts hi, chunkAt_some (by rw [hb]) (by rw [hb, hev]), hb, hev]
theorem down_file {s : Stp} {ts : List Txt} (ht : TsOk ts) (hn : ts.length ≤ 4096) {fr : Nat} : ∀ k, 1 ≤ k → k ≤ (chsOf ts).length → ∃ j, j < (chsOf ts).length ∧ cnt ((chsOf ts).take j) ≤ fr ∧ downR (fileL s ts) (layT s ts).places fr k = some (j, cnt ((chsOf ts).take j))
  | 0, h, _ => absurd h (by decide)
  | k + 1, _, hk => by
    have hch := chunkAt_file (s := s) ht hn hk
    by_cases hf : cnt ((chsOf ts).take k) ≤ fr
    · exact ⟨k, hk, hf, down_here hch hf⟩
    rw [down_next hch hf]
    refine down_file ht hn k ?_ (by omega)
    rcases Nat.eq_zero_or_pos k with h0 | h0
    · subst h0; exact absurd (Nat.zero_le _) hf
    exact h0
theorem up_file {s : Stp} {ts : List Txt} (ht : TsOk ts) (hn : ts.length ≤ 4096) {f need : Nat} (hfn : f + need ≤ ts.length) : ∀ (m i : Nat), m + i = (chsOf ts).length → f ≤ cnt ((chsOf ts).take i) →
    ∃ i', upR (fileL s ts) (layT s ts).places f need m i ((((chsOf ts).take i).flatten.drop f).map evOf) = some ((((chsOf ts).take i').flatten.drop f).map evOf) ∧ f + need ≤ cnt ((chsOf ts).take i')
  | 0, i, hm, hf => by
    have : (chsOf ts).take i = chsOf ts := List.take_of_length_le (by omega)
    refine ⟨i, up_done (by rw [this, flat_all, List.length_map, List.length_drop]; omega), by rw [this, cnt_all]; exact hfn⟩
  | m + 1, i, hm, hf => by
    have hl : ((((chsOf ts).take i).flatten.drop f).map evOf).length = cnt ((chsOf ts).take i) - f := by rw [List.length_map, List.length_drop, ← cnt_flat]
    by_cases hne : need ≤ ((((chsOf ts).take i).flatten.drop f).map evOf).length
    · refine ⟨i, up_done hne, by omega⟩
    have hi : i < (chsOf ts).length := by omega
    have hc : (chsOf ts)[i]? = some (chsOf ts)[i] := List.getElem?_eq_getElem hi
    have hch := chunkAt_file (s := s) ht hn hi
    rw [up_next hne hch (by rw [hl]; omega)]
    have e : (((chsOf ts).take i).flatten.drop f).map evOf ++ (chsOf ts)[i].map evOf = (((chsOf ts).take (i + 1)).flatten.drop f).map evOf := by
      rw [← List.map_append, flat_take hc, List.drop_append_of_le_length (by rw [← cnt_flat]; exact hf)]
    rw [e]
    exact up_file ht hn hfn m (i + 1) (by omega) (by rw [cnt_take hc]; omega)
/-- what is sought in a whole file -/
theorem seek_file {s : Stp} (hc : chkS s = 0) {ts : List Txt} (ht : TsOk ts) (hn : ts.length ≤ 4096) {fr cn : Nat} (h : fr + cn ≤ ts.length) : seekR (fileL s ts) (fr : Int) (cn : Int) = (((ts.map evOf).drop fr).take cn, 0) := by
  have hx := index_file hc ht hn
  rcases Nat.eq_zero_or_pos cn with h0 | h0
  · subst h0
    rw [seek_zero (bs := fileL s ts) (fr := (fr : Int)) (cn := ((0 : Nat) : Int)) (by rw [hx]) (by rw [hx]; simp only []; omega) rfl, List.take_zero]
  have hk : 1 ≤ (chsOf ts).length := by
    rcases Nat.eq_zero_or_pos (chsOf ts).length with hz | hz
    · have h1 := cnt_all ts
      rw [List.length_eq_zero_iff.1 hz] at h1
      have : cnt [] = 0 := rfl
      omega
    exact hz
  obtain ⟨j, hj, hf, hd⟩ := down_file (s := s) ht hn (fr := fr) (chsOf ts).length hk (Nat.le_refl _)
  obtain ⟨i', hu, hi'⟩ := up_file (s := s) ht hn (f := cnt ((chsOf ts).take j)) (need := fr + cn - cnt ((chsOf ts).take j)) (by omega) ((chsOf ts).length - j) j (by omega) (Nat.le_refl _)
  have e0 : (((chsOf ts).take j).flatten.drop (cnt ((chsOf ts).take j))).map evOf = [] := by rw [List.drop_eq_nil_of_le (by rw [cnt_flat]; exact Nat.le_refl _)]; rfl
  rw [e0] at hu
  rw [seek_ok (bs := fileL s ts) (fr := (fr : Int)) (cn := (cn : Int)) (j := j) (f := cnt ((chsOf ts).take j)) (by rw [hx]) (by rw [hx]; simp only []; omega) (by omega) (by rw [hx, lay_cnt, Int.toNat_natCast]; exact hd) (by rw [hx, lay_cnt, Int.toNat_natCast, Int.toNat_natCast]; exact hu)]
  rw [Int.toNat_natCast, Int.toNat_natCast, ← List.map_drop, List.drop_drop, show cnt ((chsOf ts).take j) + (fr - cnt ((chsOf ts).take j)) = fr by omega, ← List.map_drop, ← List.map_take, ← List.map_take]
  congr 2
  have hts : ts = ((chsOf ts).take i').flatten ++ ((chsOf ts).drop i').flatten := by rw [← List.flatten_append, List.take_append_drop, flat_all]
  have hcf := cnt_flat ((chsOf ts).take i')
  conv => rhs; rw [hts]
  rw [List.drop_append_of_le_length (by omega), List.take_append_of_le_length (by rw [List.length_drop]; omega)]
/-! what a tape of events keeps -/
/-- the first events that a tape takes -/
def takenN (es : List Evt) (i : Nat) : List Evt := (es.take i).filter fun e => (putEv e).2 == 0
def bytesN (es : List Evt) (i : Nat) : List Txt := (takenN es i).map fun e => (putEv e).1
theorem taken_len (es : List Evt) (i : Nat) : (takenN es i).length ≤ i := by
  unfold takenN
  have := List.length_filter_le (fun e => (putEv e).2 == 0) (es.take i)
  rw [List.length_take] at this; omega
theorem taken_ok {es : List Evt} {i : Nat} {e : Evt} (h : e ∈ takenN es i) : e ∈ es ∧ (putEv e).2 = 0 := by
  unfold takenN at h
  obtain ⟨h1, h2⟩ := List.mem_filter.1 h
  exact ⟨List.mem_of_mem_take h1, eq_of_beq h2⟩
theorem bytes_ok {es : List Evt} (he : ∀ e ∈ es, EvOk e) (i : Nat) : TsOk (bytesN es i) := ⟨fun t ht => by
  obtain ⟨e, h1, rfl⟩ := List.mem_map.1 ht
  obtain ⟨h2, h3⟩ := taken_ok h1
  rw [getEv_put (he e h2) h3]
  have := putEv_len e
  exact ⟨rfl, by omega⟩⟩
theorem bytes_ev {es : List Evt} (he : ∀ e ∈ es, EvOk e) (i : Nat) : (bytesN es i).map evOf = (takenN es i).map usedE := by
  unfold bytesN
  rw [List.map_map]
  refine List.map_congr_left fun e h1 => ?_
  obtain ⟨h2, h3⟩ := taken_ok h1
  show (getEv (putEv e).1).1 = usedE e
  rw [getEv_put (he e h2) h3]
theorem foldl_n (ts : List Txt) : ∀ t : TS, (ts.foldl addT t).n = t.n + ts.length := by
  induction ts with
  | nil => intro t; rfl
  | cons b ts ih => intro t; rw [List.foldl_cons, ih, addT_n, List.length_cons]; omega
theorem made_form (s : Stp) (es : List Evt) : ∀ i, i ≤ 4096 → i ≤ es.length → madeG s es i = ((bytesN es i).foldl addT (newT s), (takenN es i).map usedE)
  | 0, _, _ => by unfold bytesN takenN; rw [List.take_zero]; rfl
  | i + 1, h4, hi => by
    have ih := made_form s es i (by omega) (by omega)
    have hn := foldl_n (bytesN es i) (newT s)
    have hl : (bytesN es i).length ≤ i := by unfold bytesN; rw [List.length_map]; exact taken_len es i
    have h0 : (newT s).n = 0 := rfl
    have ht : takenN es (i + 1) = takenN es i ++ [es[i]].filter (fun e => (putEv e).2 == 0) := by
      unfold takenN; rw [List.take_succ_eq_append_getElem (by omega), List.filter_append]
    rw [madeG, List.getElem?_eq_getElem (show i < es.length by omega), ih]
    simp only []
    by_cases hp : (putEv es[i]).2 = 0
    · have hb : bytesN es (i + 1) = bytesN es i ++ [(putEv es[i]).1] := by
        unfold bytesN; rw [ht, List.map_append, List.filter_cons_of_pos (by simpa using hp)]; rfl
      rw [addRT_ok hp (by omega), if_pos rfl, hb, List.foldl_append, ht, List.map_append, List.filter_cons_of_pos (by simpa using hp)]
      rfl
    have hb : bytesN es (i + 1) = bytesN es i := by
      unfold bytesN; rw [ht, List.map_append, List.filter_cons_of_neg (by simpa using hp)]; simp
    have ha : addRT ((bytesN es i).foldl addT (newT s)) es[i] = ((putEv es[i]).2, (bytesN es i).foldl addT (newT s)) := by unfold addRT; rw [if_pos hp]
    rw [ha, if_neg hp, hb, ht, List.map_append, List.filter_cons_of_neg (by simpa using hp)]
    simp
theorem fileT_len {t : TS} (h : TOk2 t) : (fileT t).length ≤ 140737488351232 := by
  have h1 := outT_len h.ok
  have h2 : (footC t.n (plT t) (outT t)).length ≤ 32768 := seal_le _
  unfold fileT
  rw [List.length_append, List.length_append, be4_len]; omega
end Go.Proofs.YtfpmnhmdphaceaaDoor
