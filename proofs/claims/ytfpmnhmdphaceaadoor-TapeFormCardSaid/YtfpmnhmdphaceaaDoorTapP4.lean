/- One form: what is read is what would be written, in plain lists. -/
import Derived.Test.YtfpmnhmdphaceaaDoorTapP3
import Derived.Test.YtfpmnhmdphaceaaDoorTap33
namespace Go.Proofs.YtfpmnhmdphaceaaDoor
open Go.EW
set_option linter.unusedVariables false
set_option linter.unusedSimpArgs false
attribute [local irreducible] sealL openR sealR crcL shaL
theorem klen_small : ∀ j, 1 ≤ j → j ≤ 32 → klen j = 1 := by
  intro j h1 h2
  have h : ∀ j : Fin 33, 1 ≤ j.val → klen j.val = 1 := by decide
  exact h ⟨j, by omega⟩ h1
theorem chunkB_len (f : Nat) (ts : List (List UInt8)) : (chunkB f ts).length = 2 + szN f + szN ts.length + sizeT ts := by
  unfold chunkB
  simp only [List.length_append, szN_len, cat_len]
  rfl
theorem sizeT_take (ts : List (List UInt8)) (j : Nat) : sizeT (ts.take j) ≤ sizeT ts := by
  have h : sizeT ts = sizeT (ts.take j) + sizeT (ts.drop j) := by
    conv => lhs; rw [← List.take_append_drop j ts]
    unfold sizeT
    rw [List.map_append, List.sum_append]
  omega
/-- the texts of a chunk, one after the other -/
theorem chunk_add {t : TS} {ts : List (List UInt8)} (h32 : ts.length ≤ 32) (hlen : (chunkB t.n ts).length ≤ 32756) (h0 : t.texts.length = 0 → t.first = t.n) (hf : t.texts.length > 0 → fitsT t (ts.headD []) = false) :
    ∀ j, 1 ≤ j → j ≤ ts.length → (ts.take j).foldl addT t = ⟨outT t, plT t, t.n, ts.take j, t.n + j⟩
  | 0, h1, _ => absurd h1 (by decide)
  | 1, _, hj => by
    match ts, hj with
    | x :: r, _ =>
      rw [List.take_succ_cons, List.take_zero, List.foldl_cons, List.foldl_nil]
      unfold addT outT plT
      by_cases hp : t.texts.length > 0
      · rw [if_pos ⟨hp, hf hp⟩, if_pos hp, if_pos hp]; rfl
      · rw [if_neg (fun h => hp h.1), if_neg hp, if_neg hp]
        have ht : t.texts = [] := List.length_eq_zero_iff.1 (by omega)
        have hfn := h0 (by omega)
        cases t
        simp only at ht hfn ⊢
        subst ht; subst hfn; rfl
  | j + 2, _, hj => by
    have ih := chunk_add h32 hlen h0 hf (j + 1) (by omega) (by omega)
    have hlt : j + 1 < ts.length := by omega
    rw [List.take_succ_eq_append_getElem hlt, List.foldl_append, ih, List.foldl_cons, List.foldl_nil]
    have hl : (ts.take (j + 1)).length = j + 1 := by rw [List.length_take]; omega
    have hfit : fitsT ⟨outT t, plT t, t.n, ts.take (j + 1), t.n + (j + 1)⟩ ts[j + 1] = true := by
      unfold fitsT fitsN
      simp only [hl]
      rw [chunkB_len] at hlen
      have hs := sizeT_take ts (j + 2)
      rw [List.take_succ_eq_append_getElem hlt, sizeT_snoc] at hs
      have e1 : szN (j + 1 + 1) = 2 := by unfold szN; rw [klen_small _ (by omega) (by omega)]
      have e2 : szN ts.length = 2 := by unfold szN; rw [klen_small _ (by omega) (by omega)]
      rw [e1]
      rw [e2] at hlen
      rw [decide_eq_true (show j + 1 < 32 by omega), Bool.true_and, decide_eq_true_iff]
      omega
    unfold addT
    simp only []
    rw [if_neg (fun h => by rw [hfit] at h; exact absurd h.2 (by decide))]
    rfl
/-- events, one after the other -/
def addsE (t : TS) (es : List Evt) : TS := es.foldl (fun t e => (addRT t e).2) t
theorem addsE_app (t : TS) (x y : List Evt) : addsE t (x ++ y) = addsE (addsE t x) y := List.foldl_append
theorem addRT_ok {t : TS} {e : Evt} (h : (putEv e).2 = 0) (hn : t.n < 4096) : addRT t e = (0, addT t (putEv e).1) := by
  unfold addRT
  rw [if_neg (by omega), if_neg (by omega)]
theorem addT_n (t : TS) (b : List UInt8) : (addT t b).n = t.n + 1 := by
  unfold addT
  simp only []
  split <;> rfl
theorem addsE_ok : ∀ (es : List Evt) (t : TS), (∀ e ∈ es, (putEv e).2 = 0) → t.n + es.length ≤ 4096 → addsE t es = (es.map fun e => (putEv e).1).foldl addT t ∧ (addsE t es).n = t.n + es.length
  | [], t, _, _ => ⟨rfl, rfl⟩
  | e :: es, t, h, hn => by
    rw [List.length_cons] at hn
    have h1 := addRT_ok (h e (by simp)) (show t.n < 4096 by omega)
    have h2 : addsE t (e :: es) = addsE (addT t (putEv e).1) es := by unfold addsE; rw [List.foldl_cons, h1]
    have ih := addsE_ok es (addT t (putEv e).1) (fun x hx => h x (by simp [hx])) (by rw [addT_n]; omega)
    rw [h2, List.map_cons, List.foldl_cons, List.length_cons]
    exact ⟨ih.1, by rw [ih.2, addT_n]; omega⟩
theorem addsE_ok2 : ∀ (es : List Evt) (t : TS), TOk2 t → TOk2 (addsE t es)
  | [], _, h => h
  | e :: es, t, h => addsE_ok2 es _ (h.add e)
theorem made_adds (s : Stp) (es : List Evt) (h : ∀ e ∈ es, (putEv e).2 = 0) (hn : es.length ≤ 4096) : ∀ i, i ≤ es.length → madeG s es i = (addsE (newT s) (es.take i), (es.take i).map usedE)
  | 0, _ => by rw [List.take_zero]; rfl
  | i + 1, hi => by
    have hlt : i < es.length := by omega
    have hm := List.getElem_mem hlt
    have ih := made_adds s es h hn i (by omega)
    have hk := addsE_ok (es.take i) (newT s) (fun e he => h e (List.mem_of_mem_take he)) (by show 0 + _ ≤ _; rw [List.length_take]; omega)
    have hnn : (addsE (newT s) (es.take i)).n < 4096 := by rw [hk.2]; show 0 + _ < _; rw [List.length_take]; omega
    rw [madeG, List.getElem?_eq_getElem hlt, ih]
    simp only []
    rw [addRT_ok (h _ hm) hnn, if_pos rfl, List.take_succ_eq_append_getElem hlt, addsE_app, List.map_append]
    have : addsE (addsE (newT s) (es.take i)) [es[i]] = addT (addsE (newT s) (es.take i)) (putEv es[i]).1 := by
      show (addRT _ es[i]).2 = _
      rw [addRT_ok (h _ hm) hnn]
    rw [this]; rfl
/-- what is read so far is what the tape would write -/
structure Fit (bs : List UInt8) (s : SS) (q : Nat) (t : TS) : Prop where
  n : t.n = s.evs.length
  first : t.texts.length > 0 → t.first = s.first
  last : t.texts = s.last
  out : outT t = bs.take q
  pl : plT t = s.places
theorem take_take_drop (bs : List UInt8) (q n : Nat) : bs.take q ++ (bs.drop q).take n = bs.take (q + n) := by rw [List.take_add]
theorem chunk_fit {bs : List UInt8} {s : SS} {q : Nat} {t : TS} (hF : Fit bs s q t) (hT : TOk2 t) (hq : q ≤ bs.length) (hb : (bodyR bs q).2.2 = 0) (hc : (chunkR s (bodyR bs q).1 q).1 = true) :
    ∃ es, (chunkR s (bodyR bs q).1 q).2 = { s with first := (eventsR (bodyR bs q).1).1, last := (eventsR (bodyR bs q).1).2.2.1, evs := s.evs ++ es, places := s.places ++ [q] } ∧ (∀ e ∈ es, (putEv e).2 = 0) ∧ s.evs.length + es.length ≤ 4096 ∧
      Fit bs (chunkR s (bodyR bs q).1 q).2 (q + (bodyR bs q).2.1) (addsE t es) := by
  obtain ⟨g1, g2, g3, g4⟩ := bodyR_good hb hq
  unfold chunkR at hc ⊢
  split at hc
  · cases hc
  · rename_i hk
    rw [if_neg hk]
    have hok : (eventsR (bodyR bs q).1).2.2.2 = true := by
      cases he : (eventsR (bodyR bs q).1).2.2.2 with
      | true => rfl
      | false => exact absurd (.inl he) hk
    have hfe : (eventsR (bodyR bs q).1).1 = s.evs.length := Decidable.byContradiction fun h => hk (.inr (.inl h))
    have hcnt : s.evs.length + (eventsR (bodyR bs q).1).2.1.length ≤ 4096 := by
      refine Decidable.byContradiction fun h => hk (.inr (.inr (.inl (by omega))))
    obtain ⟨e1, e2, e3⟩ := eventsR_good hok
    obtain ⟨l1, l2, l3, l4⟩ := eventsR_len (bodyR bs q).1
    have l4 := l4 hok
    generalize eventsR (bodyR bs q).1 = R at *
    obtain ⟨f, es, ts, ok⟩ := R
    simp only [] at *
    refine ⟨es, rfl, e3, hcnt, ?_⟩
    have ha := addsE_ok es t e3 (by rw [hF.n]; omega)
    have htn : f = t.n := by rw [hfe, hF.n]
    subst htn
    have hadd := chunk_add (t := t) (ts := ts) (by omega) (by rw [← e1]; exact g3) (fun h => by have := hT.fst; omega) (fun h => by
      cases hf : fitsT t (ts.headD []) with
      | false => rfl
      | true =>
        refine absurd (.inr (.inr (.inr ⟨by rw [← hF.last]; exact h, ?_⟩))) hk
        unfold fitsT at hf
        rw [← hF.last, ← hF.first h]; exact hf) ts.length (by omega) (Nat.le_refl _)
    rw [List.take_length] at hadd
    have hres : addsE t es = ⟨outT t, plT t, t.n, ts, t.n + ts.length⟩ := by rw [ha.1, ← e2]; exact hadd
    rw [hres]
    have hpos : ts.length > 0 := by omega
    refine ⟨?_, fun _ => rfl, rfl, ?_, ?_⟩
    · show t.n + ts.length = (s.evs ++ es).length
      rw [List.length_append, hF.n, l2]
    · unfold outT
      rw [if_pos hpos]
      show outT t ++ frameC t.n ts = _
      unfold frameC
      rw [hF.out, ← e1, sealR_ok g3, ← g1, take_take_drop]
    · unfold plT
      rw [if_pos hpos]
      show plT t ++ [(outT t).length] = s.places ++ [q]
      rw [hF.pl, hF.out, List.length_take, Nat.min_eq_left hq]
theorem tail_fit {bs : List UInt8} {s : SS} {q : Nat} {t : TS} (hF : Fit bs s q t) (hq : q ≤ bs.length) (hb : (bodyR bs q).2.2 = 0) (fb : List UInt8) (h : (tailR bs s q fb (bodyR bs q).2.1).1 = 0) : fileT t = bs ∧ (tailR bs s q fb (bodyR bs q).2.1).2.2.stp = s.stp ∧ (tailR bs s q fb (bodyR bs q).2.1).2.2.evs = s.evs := by
  obtain ⟨g1, g2, g3, g4⟩ := bodyR_good hb hq
  unfold tailR at h ⊢
  split at h
  · cases h
  · split at h
    · cases h
    · split at h
      · cases h
      · split at h
        · cases h
        · split at h
          · cases h
          · rename_i h1 h2 h3 h4 h5
            simp only [h1, h2, h3, h4, h5, if_false]
            have hfoot : footC s.evs.length s.places (bs.take q) = (bs.drop q).take (bodyR bs q).2.1 := by simpa using h2
            have h4' : (bs.drop (q + (bodyR bs q).2.1)).take 4 = be4 (bodyR bs q).2.1 := by simpa using h4
            refine ⟨?_, rfl, rfl⟩
            unfold fileT
            rw [hF.out, hF.pl, hF.n, hfoot]
            have hl : ((bs.drop q).take (bodyR bs q).2.1).length = (bodyR bs q).2.1 := by rw [List.length_take, List.length_drop]; omega
            rw [hl, take_take_drop, ← h4', take_take_drop, List.take_of_length_le (by omega)]
theorem Fit.setR {bs : List UInt8} {s : SS} {q : Nat} {t : TS} (h : Fit bs s q t) (r : Nat) : Fit bs { s with right := r } q t := ⟨h.n, h.first, h.last, h.out, h.pl⟩
theorem loop_fit {bs : List UInt8} : ∀ (k : Nat) (s : SS) (q : Nat) (t : TS), Fit bs s q t → TOk2 t → q ≤ bs.length → bs.length < k + q → (loopR bs k s q).1 = 0 →
    ∃ es, (loopR bs k s q).2.2.evs = s.evs ++ es ∧ (∀ e ∈ es, (putEv e).2 = 0) ∧ (s.evs.length ≤ 4096 → s.evs.length + es.length ≤ 4096) ∧ (loopR bs k s q).2.2.stp = s.stp ∧ fileT (addsE t es) = bs
  | 0, s, q, t, _, _, h1, h2, _ => absurd h2 (by omega)
  | k + 1, s, q, t, hF, hT, hq, hk, h => by
    rw [loopR] at h ⊢
    split at h
    · rename_i h1; exact absurd h h1
    · rename_i h1
      have hb : (bodyR bs q).2.2 = 0 := by simpa using h1
      split at h
      · rename_i h2
        have := tail_fit (hF.setR q) hq hb _ h
        simp only [h1, h2, if_false, if_true]
        exact ⟨[], by rw [this.2.2, List.append_nil], by simp, fun hh => by simpa using hh, this.2.1, this.1⟩
      · rename_i h2
        split at h
        · cases h
        · rename_i h3
          have hc : (chunkR { s with right := q } (bodyR bs q).1 q).1 = true := by simpa using h3
          obtain ⟨es, c1, c2, c3, c4⟩ := chunk_fit (hF.setR q) hT hq hb hc
          obtain ⟨g1, g2, g3, g4⟩ := bodyR_good hb hq
          obtain ⟨fs, d1, d2, d3, d4, d5⟩ := loop_fit k _ _ _ c4 (addsE_ok2 es t hT) g4 (by omega) h
          have hev : (chunkR { s with right := q } (bodyR bs q).1 q).2.evs = s.evs ++ es := by rw [c1]
          have hst : (chunkR { s with right := q } (bodyR bs q).1 q).2.stp = s.stp := by rw [c1]
          rw [if_neg h1, if_neg h2, if_neg h3]
          refine ⟨es ++ fs, by rw [d1, hev, List.append_assoc], fun e he => ?_, fun hh => ?_, by rw [d4, hst], by rw [addsE_app]; exact d5⟩
          · rcases List.mem_append.1 he with he | he
            · exact c2 e he
            · exact d2 e he
          · have := d3 (by rw [hev, List.length_append]; exact c3)
            rw [hev, List.length_append] at this
            rw [List.length_append]; omega
/-- a file that is read is the file of what is read of it -/
theorem run_form {bs : List UInt8} (h : (runR bs).1 = 0) : chkS (runR bs).2.2.stp = 0 ∧ (∀ e ∈ (runR bs).2.2.evs, (putEv e).2 = 0) ∧ (runR bs).2.2.evs.length ≤ 4096 ∧ fileT (addsE (newT (runR bs).2.2.stp) (runR bs).2.2.evs) = bs := by
  unfold runR at h ⊢
  split at h
  · rename_i h1; exact absurd h h1
  · rename_i h1
    split at h
    · cases h
    · rename_i h2
      have hb : (bodyR bs 0).2.2 = 0 := by simpa using h1
      have hh : (headR (bodyR bs 0).1).2 = true := by simpa using h2
      obtain ⟨g1, g2, g3, g4⟩ := bodyR_good hb (Nat.zero_le _)
      obtain ⟨e1, e2⟩ := headR_good hh
      rw [if_neg h1, if_neg h2]
      generalize hs : (headR (bodyR bs 0).1).1 = st at *
      have hF : Fit bs { ss0 with stp := st } (bodyR bs 0).2.1 (newT st) := by
        refine ⟨rfl, fun hx => absurd hx (by show ¬ 0 < 0; omega), rfl, ?_, rfl⟩
        show (sealR (headB st)).1 = _
        rw [← e1, sealR_ok g3]
        rw [List.drop_zero] at g1
        exact g1.symm
      obtain ⟨es, d1, d2, d3, d4, d5⟩ := loop_fit _ _ _ _ hF (TOk2.new st) (by omega) (by omega) h
      have d1' : (loopR bs (bs.length + 1) { ss0 with stp := st } (bodyR bs 0).2.1).2.2.evs = es := d1
      rw [d1', d4]
      have := d3 (Nat.zero_le _)
      exact ⟨e2, d2, by simpa [ss0] using this, d5⟩
end Go.Proofs.YtfpmnhmdphaceaaDoor
