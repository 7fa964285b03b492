/- What is read of a file of a tape that is cut off; plain lists, no program. -/
import Derived.Test.YtfpmnhmdphaceaaDoorTap46
namespace Go.Proofs.YtfpmnhmdphaceaaDoor
open Go.EW
set_option linter.unusedVariables false
set_option linter.unusedSimpArgs false
attribute [local irreducible] crcL shaL sealL sealR openR be4 footB
/-! a file that is cut -/
/-- the places of a file's parts, the four bytes' too -/
def posC (s : Stp) (us : List Txt) : List Nat := posW s us ++ [(fileL s us).length - 4]
theorem posW_len (s : Stp) (us : List Txt) : (posW s us).length = (chsOf us).length + 2 := by
  unfold posW; rw [List.length_append, List.length_append, lay_cnt]; simp; omega
theorem posC_len (s : Stp) (us : List Txt) : (posC s us).length = (chsOf us).length + 3 := by
  unfold posC; rw [List.length_append, posW_len]; rfl
theorem posW_zero (s : Stp) (us : List Txt) : (posW s us)[0]? = some 0 := by unfold posW; rfl
theorem posW_q (s : Stp) (us : List Txt) {j : Nat} (hj : j ≤ (chsOf us).length) : (posW s us)[j + 1]? = some (qOf (headF s) (chsOf us) j) := by
  unfold posW
  rcases Nat.lt_or_ge j (chsOf us).length with h | h
  · rw [List.getElem?_append_left (by rw [List.length_append, lay_cnt]; simp; omega), List.getElem?_append_right (by simp)]
    simpa using lay_get s us h
  obtain rfl : j = (chsOf us).length := by omega
  rw [List.getElem?_append_right (by rw [List.length_append, lay_cnt]; simp; omega), List.length_append, lay_cnt, q_all]
  rw [show (chsOf us).length + 1 - (([0] : List Nat).length + (chsOf us).length) = 0 by show (chsOf us).length + 1 - (1 + (chsOf us).length) = 0; omega]
  rfl
theorem posC_zero (s : Stp) (us : List Txt) : (posC s us)[0]? = some 0 := by
  unfold posC; rw [List.getElem?_append_left (by rw [posW_len]; omega)]; exact posW_zero s us
theorem posC_q (s : Stp) (us : List Txt) {j : Nat} (hj : j ≤ (chsOf us).length) : (posC s us)[j + 1]? = some (qOf (headF s) (chsOf us) j) := by
  unfold posC; rw [List.getElem?_append_left (by rw [posW_len]; omega)]; exact posW_q s us hj
theorem posC_last (s : Stp) (us : List Txt) : (posC s us)[(chsOf us).length + 2]? = some ((fileL s us).length - 4) := by
  unfold posC; rw [List.getElem?_append_right (by rw [posW_len]; omega), posW_len, Nat.sub_self]; rfl
theorem cut_drop {bs x rest : Txt} {q k : Nat} (h : bs.drop q = sealL x ++ rest) (hk : q ≤ k) (hlt : k - q < x.length + 12) (hkl : k ≤ bs.length) :
    ∃ r, (bs.take k).drop q ++ r = sealL x ∧ (bs.take k).length - q < x.length + 12 := by
  refine ⟨(sealL x).drop (k - q), ?_, by rw [List.length_take]; omega⟩
  rw [List.drop_take, h, List.take_append_of_le_length (by rw [seal_len]; omega), List.take_append_drop]
theorem pre_take {x bs : Txt} {k : Nat} (h : x <+: bs) (hk : x.length ≤ k) : x <+: bs.take k := by
  obtain ⟨r, rfl⟩ := h
  rw [List.take_append, List.take_of_length_le hk]
  exact List.prefix_append _ _
/-- what is read of a file that is cut -/
theorem cut_run {s : Stp} (hc : chkS s = 0) (hso : StpOk s) {us : List Txt} (ht : TsOk us) (hn : us.length ≤ 4096) {k i p : Nat} (hk : k < (fileL s us).length) (hp : (posC s us)[i]? = some p) (hpk : p ≤ k) (hnx : ∀ p', (posC s us)[i + 1]? = some p' → k < p') :
    ∃ y, runR ((fileL s us).take k) = (222, p, y) ∧ y.right = p ∧ (i = 0 → y.stp = stp0 ∧ y.evs = []) ∧ (0 < i → y.stp = s ∧ y.evs = (us.take (cnt ((chsOf us).take (min (i - 1) (chsOf us).length)))).map evOf) := by
  have hff := file_form (s := s) ht hn
  obtain ⟨hfl, hfr, hfc⟩ := footF_ok s ht.len hn
  have hgr := grd_all ht.len
  have hil : i < (posC s us).length := (List.getElem?_eq_some_iff.1 hp).1
  rw [posC_len] at hil
  have hflen : (fileL s us).length = (layT s us).file.length + ((footB us.length (layT s us).places (layT s us).file).length + 12) + 4 := by
    rw [hff, List.length_append, List.length_append, seal_len, be4_len]; omega
  have hpre : ∀ m, (layL (headF s) ((chsOf us).take m)).file <+: fileL s us := fun m => (lay_pre_all _ _ _).trans (by rw [hff]; exact List.prefix_append _ _)
  have hflat : ∀ m, ((chsOf us).take m).flatten = us.take (cnt ((chsOf us).take m)) := fun m => by
    have h : us = ((chsOf us).take m).flatten ++ ((chsOf us).drop m).flatten := by rw [← List.flatten_append, List.take_append_drop, flat_all]
    have key : ∀ A R : List Txt, us = A ++ R → A = us.take A.length := fun A R e => by rw [e, List.take_left]
    rw [cnt_flat]; exact key _ _ h
  have hevs : ∀ {m : Nat} {y : SS}, Sc s (headF s) (chsOf us) m y → y.evs = (us.take (cnt ((chsOf us).take m))).map evOf := fun {m y} hS => by rw [hS.evs, hflat]
  cases i with
  | zero =>
    rw [posC_zero] at hp
    obtain rfl := Option.some.inj hp
    have h1 := hnx _ (posC_q s us (Nat.zero_le _))
    rw [q_zero] at h1
    have hh := headF_seal hc
    obtain ⟨r, hr⟩ := hpre 0
    have hr : headF s ++ r = fileL s us := hr
    obtain ⟨r2, h2, h3⟩ := cut_drop (bs := fileL s us) (x := headB s) (rest := r) (q := 0) (k := k) (by rw [List.drop_zero, ← hh]; exact hr.symm) (Nat.zero_le _) (by rw [hh, seal_len] at h1; omega) (by omega)
    have hb := bodyR_cut (headB_len hc) h2 h3
    refine ⟨ss0, ?_, rfl, fun _ => ⟨rfl, rfl⟩, fun h => absurd h (by omega)⟩
    unfold runR
    rw [hb]; rfl
  | succ j =>
    rcases Nat.lt_or_ge j ((chsOf us).length + 1) with hj | hj
    · have hq := posC_q s us (show j ≤ (chsOf us).length by omega)
      rw [hq] at hp
      obtain rfl := Option.some.inj hp
      have hcn := cnt_le (us := us) (i := j)
      obtain ⟨y, k', hS, hrun⟩ := run_q (bs := (fileL s us).take k) (s := s) (cs := chsOf us) hc hso hgr (by rw [flat_all]; exact ht.goodT) (m := j) (by omega) (pre_take (hpre j) hpk) (by omega)
      have hmin : min (j + 1 - 1) (chsOf us).length = j := by omega
      have hfin : ∀ (x rest : Txt), x.length ≤ 32756 → (fileL s us).drop (qOf (headF s) (chsOf us) j) = sealL x ++ rest → k - qOf (headF s) (chsOf us) j < x.length + 12 →
          runR ((fileL s us).take k) = (222, qOf (headF s) (chsOf us) j, { y with right := qOf (headF s) (chsOf us) j }) := fun x rest hx hd hl => by
        obtain ⟨r2, h2, h3⟩ := cut_drop hd hpk hl (by omega)
        rw [hrun, loop_cut hx h2 h3]
      have hgo : ∃ x rest : Txt, x.length ≤ 32756 ∧ (fileL s us).drop (qOf (headF s) (chsOf us) j) = sealL x ++ rest ∧ k - qOf (headF s) (chsOf us) j < x.length + 12 := by
        rcases Nat.lt_or_ge j (chsOf us).length with h | h
        · have hcj : (chsOf us)[j]? = some (chsOf us)[j] := List.getElem?_eq_getElem h
          have ok := hgr.ok j _ hcj
          obtain ⟨r, hr⟩ := drop_q hcj ok.size (hpre (j + 1))
          have h1 := hnx _ (posC_q s us (show j + 1 ≤ (chsOf us).length by omega))
          rw [q_succ hcj ok.size] at h1
          exact ⟨_, r, ok.size, hr, by omega⟩
        obtain rfl : j = (chsOf us).length := by omega
        have h1 := hnx _ (posC_last s us)
        rw [q_all] at hpk ⊢
        exact ⟨_, _, hfl, by rw [hff, List.drop_left], by omega⟩
      obtain ⟨x, rest, hx, hd, hl⟩ := hgo
      refine ⟨_, hfin x rest hx hd hl, rfl, fun h => absurd h (by omega), fun _ => ⟨hS.stp, ?_⟩⟩
      rw [hmin]
      exact hevs (hS.setR _)
    obtain rfl : j = (chsOf us).length + 1 := by omega
    rw [posC_last] at hp
    obtain rfl := Option.some.inj hp
    have hmin : min ((chsOf us).length + 1 + 1 - 1) (chsOf us).length = (chsOf us).length := by omega
    have hall : (chsOf us).take (chsOf us).length = chsOf us := List.take_length
    have hq := q_all s us
    have hpq := hpre (chsOf us).length
    have hlay : layL (headF s) ((chsOf us).take (chsOf us).length) = layT s us := by rw [hall]; rfl
    obtain ⟨y, k', hS, hrun⟩ := run_q (bs := (fileL s us).take k) (s := s) (cs := chsOf us) hc hso hgr (by rw [flat_all]; exact ht.goodT) (m := (chsOf us).length) (Nat.le_refl _) (pre_take hpq (by rw [hlay]; omega)) (by rw [hall, cnt_all]; exact hn)
    have hd : ((fileL s us).take k).drop (qOf (headF s) (chsOf us) (chsOf us).length) = sealL (footB us.length (layT s us).places (layT s us).file) ++ (be4 ((footB us.length (layT s us).places (layT s us).file).length + 12)).take (k - ((fileL s us).length - 4)) := by
      have e1 : k - (layT s us).file.length - ((footB us.length (layT s us).places (layT s us).file).length + 12) = k - ((fileL s us).length - 4) := by omega
      have e2 : (fileL s us).drop (layT s us).file.length = sealL (footB us.length (layT s us).places (layT s us).file) ++ be4 ((footB us.length (layT s us).places (layT s us).file).length + 12) := by rw [hff, List.drop_left]
      rw [hq, List.drop_take, e2, List.take_append, List.take_of_length_le (by rw [seal_len]; omega), seal_len, e1]
    have hlf := loop_foot (x := []) (k := k') (bs := (fileL s us).take k) hS (n := us.length) (pl := (layT s us).places) (by rw [hall, cnt_all]) (by rw [hlay]) (by rw [hq, hlay, List.take_take, hff, Nat.min_eq_left (by omega), List.take_left]) (by rw [hlay, hfr]) (by rw [hlay]; exact hfl) (rest := (be4 ((footB us.length (layT s us).places (layT s us).file).length + 12)).take (k - ((fileL s us).length - 4))) (by rw [hlay]; exact hd) _ rfl
    rw [if_pos (by rw [List.length_take]; omega), hq, hlay] at hlf
    have hpe : (layT s us).file.length + ((footB us.length (layT s us).places (layT s us).file).length + 12) = (fileL s us).length - 4 := by omega
    rw [hpe] at hlf
    refine ⟨{ y with right := (fileL s us).length - 4 }, by rw [hrun, hq]; exact hlf, rfl, fun h => absurd h (by omega), fun _ => ⟨hS.stp, ?_⟩⟩
    rw [hmin]
    exact hevs (hS.setR _)
end Go.Proofs.YtfpmnhmdphaceaaDoor
