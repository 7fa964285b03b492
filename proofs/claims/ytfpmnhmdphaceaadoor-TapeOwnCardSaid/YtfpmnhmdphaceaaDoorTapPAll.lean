/- One form: what is read is what would be written, in plain lists. -/
import Derived.Test.YtfpmnhmdphaceaaDoorTapPBAll
import Derived.Test.YtfpmnhmdphaceaaDoorTap10
import Derived.Test.YtfpmnhmdphaceaaDoorTapP4
namespace Go.Proofs.YtfpmnhmdphaceaaDoor
open Go.EW
set_option linter.unusedVariables false
set_option linter.unusedSimpArgs false
/-- a reader that has read these bytes of a text -/
structure Pre (b : List UInt8) (s : Rs) (x : List UInt8) : Prop where
  err : s.err = 0
  at_ : s.at_ = x.length
  pre : x <+: b
theorem Pre.start (b : List UInt8) : Pre b ⟨0, 0⟩ [] := ⟨rfl, rfl, List.nil_prefix⟩
theorem Pre.drop {b x y : List UInt8} {s : Rs} (h : Pre b s x) (hp : (x ++ y) <+: b) : ∃ rest, b.drop s.at_ = y ++ rest := by
  obtain ⟨r, rfl⟩ := hp
  exact ⟨r, by rw [h.at_, List.append_assoc, List.drop_left]⟩
theorem rInt_pre {b x : List UInt8} {m v : Nat} {s : Rs} (h : Pre b s x) (hm : m < 18446744073709551616) (hv : v ≤ m) (hp : (x ++ formL v) <+: b) : (rInt b m s).1 = v ∧ Pre b (rInt b m s).2 (x ++ formL v) := by
  obtain ⟨r, hr⟩ := h.drop hp
  rw [rInt_form h.err hm hv hr]
  exact ⟨rfl, rfl, by rw [List.length_append, h.at_], hp⟩
theorem rNum_pre {b x : List UInt8} {v : Nat} {s : Rs} (h : Pre b s x) (hv : v < 18446744073709551616) (hp : (x ++ formL v) <+: b) : (rNum b s).1 = v ∧ Pre b (rNum b s).2 (x ++ formL v) := by
  obtain ⟨r, hr⟩ := h.drop hp
  rw [rNum_form h.err hv hr]
  exact ⟨rfl, rfl, by rw [List.length_append, h.at_], hp⟩
theorem rText_pre {b x t : List UInt8} {m : Nat} {s : Rs} (h : Pre b s x) (hm : m < 18446744073709551616) (hv : t.length ≤ m) (hp : (x ++ (formL t.length ++ t)) <+: b) : (rText b m s).1 = t ∧ Pre b (rText b m s).2 (x ++ (formL t.length ++ t)) := by
  obtain ⟨r, hr⟩ := h.drop hp
  rw [rText_form h.err hm hv hr]
  exact ⟨rfl, rfl, by show s.at_ + _ = _; rw [@List.length_append _ x, h.at_], hp⟩
theorem rEnd_pre {b : List UInt8} {s : Rs} (h : Pre b s b) : rEnd b s = 0 := by
  unfold rEnd
  rw [if_neg (by have := h.err; omega), if_neg (by have := h.at_; omega)]
theorem Pre.of {b x : List UInt8} {s : Rs} (h : Pre b s x) {y : List UInt8} (e : x = y) : Pre b s y := e ▸ h
theorem put_used (e : Evt) (u i : Nat) (hi : i < 6) : ∀ x : Evt, (x.put i (e.num i)) = usedSet e i x := fun x => by
  rcases six hi with rfl | rfl | rfl | rfl | rfl | rfl <;> rfl
theorem pgo_pre (e : Evt) (u : Nat) : ∀ {i j : Nat}, i ≤ j → pgo e u i <+: pgo e u j := fun {i j} h => by
  induction j with
  | zero => rw [show i = 0 by omega]; exact List.prefix_refl _
  | succ j ih =>
    rcases Nat.eq_or_lt_of_le h with rfl | h1
    · exact List.prefix_refl _
    rw [pgo]; exact (ih (by omega)).trans (List.prefix_append _ _)
theorem ggo_put {e : Evt} {b : List UInt8} {u : Nat} {s0 : Rs} (hp : pgo e u 6 <+: b) (h0 : Pre b s0 (formL e.k.toNat)) (hn : ∀ j, j < 6 → bitN u j = true → 0 ≤ e.num j ∧ e.num j ≤ 9223372036854775807) :
    ∀ i, i ≤ 6 → (ggo b u ({ evt0 with k := e.k }, s0) i).1 = usedTo e u i ∧ Pre b (ggo b u ({ evt0 with k := e.k }, s0) i).2 (pgo e u i)
  | 0, _ => ⟨rfl, h0⟩
  | i + 1, hi => by
    obtain ⟨h1, h2⟩ := ggo_put hp h0 hn i (by omega)
    rw [ggo, gnum, usedTo, pgo]
    by_cases hb : bitN u i = true
    · rw [if_pos hb, if_pos hb, if_pos hb]
      have hm : maxI = 9223372036854775807 := rfl
      have hr := hn i (by omega) hb
      have hpp := (pgo_pre e u (show i + 1 ≤ 6 from hi)).trans hp
      rw [pgo, if_pos hb] at hpp
      obtain ⟨a1, a2⟩ := rInt_pre (m := maxI) (v := (e.num i).toNat) h2 (by omega) (by omega) hpp
      rw [h1, a1]
      refine ⟨?_, a2⟩
      rw [show (((e.num i).toNat : Nat) : Int) = e.num i by omega]
      exact put_used e u i (by omega) _
    rw [if_neg hb, if_neg hb, if_neg hb, List.append_nil]
    exact ⟨h1, h2⟩
theorem negN_inv {e : Evt} {u : Nat} : ∀ {i : Nat}, negN e u i = false → ∀ j, j < i → bitN u j = true → 0 ≤ e.num j
  | 0, _, j, hj, _ => absurd hj (by omega)
  | i + 1, h, j, hj, hb => by
    rw [negN, Bool.or_eq_false_iff] at h
    rcases Nat.lt_succ_iff_lt_or_eq.1 hj with h1 | rfl
    · exact negN_inv h.1 j h1 hb
    have := h.2
    rw [hb, Bool.true_and, decide_eq_false_iff_not] at this
    omega
theorem uses_kind {k : Int} (h : usesN k ≠ 0) : 1 ≤ k ∧ k < 13 := by
  unfold usesN at h
  split at h
  · exact absurd rfl h
  omega
theorem form_ne (v : Nat) : formL v ≠ [] := by unfold formL; exact List.cons_ne_nil _ _
/-- what is laid down of an event is read -/
theorem getEv_put {e : Evt} (he : EvOk e) (h : (putEv e).2 = 0) : getEv (putEv e).1 = (usedE e, 0) := by
  unfold putEv at h
  split at h
  · cases h
  rename_i hu
  split at h
  · cases h
  rename_i hneg
  split at h
  · cases h
  rename_i hop
  split at h
  · cases h
  rename_i hlong
  have hpe : putEv e = (pgo e (usesN e.k) 6 ++ pdr e (usesN e.k) ++ pop e (usesN e.k) ++ pby e (usesN e.k), 0) := by
    unfold putEv
    rw [if_neg hu, if_neg hneg, if_neg hop, if_neg hlong]
  rw [hpe]
  simp only []
  have hk := uses_kind hu
  have hmx : maxI = 9223372036854775807 := rfl
  generalize hbb : pgo e (usesN e.k) 6 ++ pdr e (usesN e.k) ++ pop e (usesN e.k) ++ pby e (usesN e.k) = b
  have p4 : pgo e (usesN e.k) 6 ++ pdr e (usesN e.k) ++ pop e (usesN e.k) ++ pby e (usesN e.k) <+: b := by rw [hbb]; exact List.prefix_refl _
  have p3 := (List.prefix_append (pgo e (usesN e.k) 6 ++ pdr e (usesN e.k) ++ pop e (usesN e.k)) (pby e (usesN e.k))).trans p4
  have p2 := (List.prefix_append (pgo e (usesN e.k) 6 ++ pdr e (usesN e.k)) (pop e (usesN e.k))).trans p3
  have p1 := (List.prefix_append (pgo e (usesN e.k) 6) (pdr e (usesN e.k))).trans p2
  have p0 : [] ++ formL e.k.toNat <+: b := (pgo_pre e (usesN e.k) (Nat.zero_le 6)).trans p1
  obtain ⟨a1, a2⟩ := rInt_pre (m := maxI) (v := e.k.toNat) (Pre.start b) (by omega) (by omega) p0
  have hgk : gkind b = e.k := by
    unfold gkind
    rw [a1, if_pos (by omega)]
    omega
  have hat : (rInt b maxI ⟨0, 0⟩).2.at_ ≠ 0 := by
    rw [a2.at_]
    have := List.length_pos_iff.2 (form_ne e.k.toNat)
    rw [List.length_append]; omega
  have hnn := negN_inv (e := e) (u := usesN e.k) (i := 6) (by simpa using hneg)
  have g6 := ggo_put (s0 := (rInt b maxI ⟨0, 0⟩).2) p1 a2 (fun j hj hb => ⟨hnn j hj hb, (he.num j).2⟩) 6 (Nat.le_refl _)
  unfold getEv
  rw [hgk, if_neg hat, if_neg hu]
  have hall : (gall b).1 = usedE e ∧ Pre b (gall b).2 b := by
    unfold gall
    rw [hgk]
    generalize hs6 : ggo b (usesN e.k) ({ evt0 with k := e.k }, (rInt b maxI ⟨0, 0⟩).2) 6 = s6 at g6
    have g7 : (gdr b (usesN e.k) s6).1 = usedTo e (usesN e.k) 7 ∧ Pre b (gdr b (usesN e.k) s6).2 (pgo e (usesN e.k) 6 ++ pdr e (usesN e.k)) := by
      unfold gdr pdr at *
      rw [usedTo]
      by_cases hb : bitN (usesN e.k) 6 = true
      · simp only [hb, if_true] at p2 ⊢
        obtain ⟨c1, c2⟩ := rNum_pre g6.2 he.hi.1 ((by rw [← List.append_assoc]; exact List.prefix_append _ _ : pgo e (usesN e.k) 6 ++ formL e.hi <+: pgo e (usesN e.k) 6 ++ (formL e.hi ++ formL e.lo)).trans p2)
        obtain ⟨d1, d2⟩ := rNum_pre c2 he.hi.2 (by rw [List.append_assoc]; exact p2)
        rw [c1, d1, g6.1]
        exact ⟨rfl, d2.of (List.append_assoc _ _ _)⟩
      simp only [hb, if_false, List.append_nil, Bool.false_eq_true]
      exact g6
    generalize hs7 : gdr b (usesN e.k) s6 = s7 at g7
    have g8 : (gop b (usesN e.k) s7).1 = usedTo e (usesN e.k) 8 ∧ Pre b (gop b (usesN e.k) s7).2 (pgo e (usesN e.k) 6 ++ pdr e (usesN e.k) ++ pop e (usesN e.k)) := by
      unfold gop pop at *
      rw [usedTo]
      by_cases hb : bitN (usesN e.k) 7 = true
      · simp only [hb, if_true] at p3 ⊢
        have ho := he.op
        have hnop : ¬ (e.ok < 0 ∨ e.os < 0) := fun hh => hop ⟨hb, hh⟩
        have hlo : ¬ 64 < e.ov.size := fun hh => hlong (.inl ⟨hb, hh⟩)
        have hsz : e.ov.data.toList.length = e.ov.size := rfl
        generalize hX : pgo e (usesN e.k) 6 ++ pdr e (usesN e.k) = X at *
        have q1 : X ++ formL e.ok.toNat <+: b := (show X ++ formL e.ok.toNat <+: X ++ (formL e.ok.toNat ++ formL e.os.toNat ++ (formL e.ov.size ++ e.ov.data.toList)) from ⟨formL e.os.toNat ++ (formL e.ov.size ++ e.ov.data.toList), by simp only [List.append_assoc]⟩).trans p3
        obtain ⟨c1, c2⟩ := rInt_pre (m := maxI) (v := e.ok.toNat) g7.2 (by omega) (by omega) q1
        have q2 : X ++ formL e.ok.toNat ++ formL e.os.toNat <+: b := (show X ++ formL e.ok.toNat ++ formL e.os.toNat <+: X ++ (formL e.ok.toNat ++ formL e.os.toNat ++ (formL e.ov.size ++ e.ov.data.toList)) from ⟨formL e.ov.size ++ e.ov.data.toList, by simp only [List.append_assoc]⟩).trans p3
        obtain ⟨d1, d2⟩ := rInt_pre (m := maxI) (v := e.os.toNat) c2 (by omega) (by omega) q2
        have q3 : X ++ formL e.ok.toNat ++ formL e.os.toNat ++ (formL e.ov.data.toList.length ++ e.ov.data.toList) <+: b := by rw [hsz]; simpa only [List.append_assoc] using p3
        obtain ⟨f1, f2⟩ := rText_pre (m := 64) (t := e.ov.data.toList) d2 (by decide) (by omega) q3
        rw [c1, d1, f1, g7.1]
        refine ⟨?_, f2.of (by rw [hsz]; simp only [List.append_assoc])⟩
        rw [show ((e.ok.toNat : Nat) : Int) = e.ok by omega, show ((e.os.toNat : Nat) : Int) = e.os by omega]
        rfl
      simp only [hb, if_false, List.append_nil, Bool.false_eq_true]
      exact g7
    generalize hs8 : gop b (usesN e.k) s7 = s8 at g8
    show (gby b (usesN e.k) s8).1 = usedE e ∧ Pre b (gby b (usesN e.k) s8).2 b
    have g9 : (gby b (usesN e.k) s8).1 = usedE e ∧ Pre b (gby b (usesN e.k) s8).2 (pgo e (usesN e.k) 6 ++ pdr e (usesN e.k) ++ pop e (usesN e.k) ++ pby e (usesN e.k)) := by
      unfold gby pby usedE at *
      rw [usedTo]
      by_cases hb : bitN (usesN e.k) 8 = true
      · simp only [hb, if_true] at p4 ⊢
        have hlo : ¬ 16384 < e.bs.length := fun hh => hlong (.inr ⟨hb, hh⟩)
        obtain ⟨f1, f2⟩ := rText_pre (m := 16384) (t := e.bs) g8.2 (by decide) (by omega) p4
        rw [f1, g8.1]
        exact ⟨rfl, f2⟩
      simp only [hb, if_false, List.append_nil, Bool.false_eq_true]
      exact g8
    exact ⟨g9.1, g9.2.of hbb⟩
  rw [rEnd_pre hall.2, if_neg (by simp), hall.1]
end Go.Proofs.YtfpmnhmdphaceaaDoor
namespace Go.Proofs.YtfpmnhmdphaceaaDoor
open Go.EW
set_option linter.unusedVariables false
set_option linter.unusedSimpArgs false
attribute [local irreducible] crcL shaL
/-! a frame that is laid down is opened -/
theorem be4_len (n : Nat) : (be4 n).length = 4 := rfl
theorem num_be4 {n : Nat} (h : n < 4294967296) : numB (be4 n) = n := by
  have : numB (be4 n) = (((UInt8.ofNat (n / 2 ^ 24)).toNat * 256 + (UInt8.ofNat (n / 2 ^ 16)).toNat) * 256 + (UInt8.ofNat (n / 2 ^ 8)).toNat) * 256 + (UInt8.ofNat n).toNat := by simp [be4, numB]
  rw [this]
  simp only [UInt8.toNat_ofNat']
  omega
theorem seal_head (b : List UInt8) : (sealL b).take 4 = magicL ∧ ((sealL b).drop 4).take 4 = be4 b.length ∧ (sealL b).drop 8 = b ++ le4 (crcL (frmL b)) := by
  unfold sealL frmL
  refine ⟨rfl, rfl, ?_⟩
  rw [List.append_assoc, List.append_assoc]
  rfl
theorem openR_seal {b : List UInt8} (h : b.length ≤ 32756) : openR (sealL b) = (b, 0) := by
  obtain ⟨h1, h2, h3⟩ := seal_head b
  have hl := seal_len b
  have hf : (sealL b).take ((sealL b).length - 4) = frmL b := by
    rw [hl, show b.length + 12 - 4 = (frmL b).length by rw [frm_len]; omega]
    unfold sealL
    rw [List.take_left]
  have hd : (sealL b).drop ((sealL b).length - 4) = le4 (crcL (frmL b)) := by
    rw [hl, show b.length + 12 - 4 = (frmL b).length by rw [frm_len]; omega]
    unfold sealL
    rw [List.drop_left]
  unfold openR
  rw [if_neg (by omega), if_neg (by omega), if_neg (by rw [h1]; simp), h2, num_be4 (by omega)]
  rw [if_neg (by omega), if_neg (by omega), hd, hf, h3, if_neg (by simp), hl, show b.length + 12 - 12 = b.length by omega, List.take_left]
/-- the frame at a place -/
theorem bodyR_seal {bs x rest : List UInt8} {p : Nat} (hx : x.length ≤ 32756) (h : bs.drop p = sealL x ++ rest) : bodyR bs p = (x, x.length + 12, 0) := by
  obtain ⟨h1, h2, h3⟩ := seal_head x
  have hl := seal_len x
  have hlen := congrArg List.length h
  rw [List.length_drop, List.length_append, hl] at hlen
  have e1 : (bs.drop p).take 4 = magicL := by rw [h, List.take_append_of_le_length (by omega), h1]
  have e2 : (bs.drop (p + 4)).take 4 = be4 x.length := by
    rw [← List.drop_drop, h, List.drop_append_of_le_length (by omega), List.take_append_of_le_length (by rw [List.length_drop]; omega), h2]
  have e3 : (bs.drop p).take (x.length + 12) = sealL x := by rw [h, ← hl, List.take_left]
  unfold bodyR
  rw [e1, e2, num_be4 (by omega), e3, openR_seal hx]
  rw [if_neg (by omega), if_neg (by simp), if_neg (by omega), if_neg (by omega), if_neg (by simp)]
/-! the head -/
theorem natsB_app (a b : List Nat) : natsB (a ++ b) = natsB a ++ natsB b := by unfold natsB; rw [List.flatMap_append]
theorem natsB_one (v : Nat) : natsB [v] = formL v := by unfold natsB; simp
theorem rInts_pre {b : List UInt8} {s : Rs} {x : List UInt8} (h : Pre b s x) {l : List Nat} (hm : ∀ v ∈ l, v ≤ maxI) (hp : x ++ natsB l <+: b) : ∀ i, i ≤ l.length → (rInts b s i).1 = l.take i ∧ Pre b (rInts b s i).2 (x ++ natsB (l.take i))
  | 0, _ => ⟨by rw [List.take_zero]; rfl, by rw [List.take_zero]; exact h.of (by unfold natsB; simp)⟩
  | i + 1, hi => by
    obtain ⟨h1, h2⟩ := rInts_pre h hm hp i (by omega)
    have ht : l.take (i + 1) = l.take i ++ [l[i]] := List.take_succ_eq_append_getElem (by omega)
    have hpp : x ++ natsB (l.take i) ++ formL l[i] <+: b := by
      refine List.IsPrefix.trans ?_ hp
      rw [List.append_assoc, ← natsB_one, ← natsB_app, ← ht]
      refine (List.prefix_append_right_inj x).2 ?_
      conv => rhs; rw [← List.take_append_drop (i + 1) l, natsB_app]
      exact List.prefix_append _ _
    obtain ⟨a1, a2⟩ := rInt_pre (m := maxI) h2 (by decide) (hm _ (List.getElem_mem _)) hpp
    rw [rInts, h1, a1, ht]
    exact ⟨rfl, a2.of (by rw [natsB_app, natsB_one, List.append_assoc])⟩
theorem rInts_all {b : List UInt8} {s : Rs} {x : List UInt8} (h : Pre b s x) {l : List Nat} (hm : ∀ v ∈ l, v ≤ maxI) (hp : x ++ natsB l <+: b) {k : Nat} (hk : l.length = k) : (rInts b s k).1 = l ∧ Pre b (rInts b s k).2 (x ++ natsB l) := by
  subst hk
  have := rInts_pre h hm hp l.length (Nat.le_refl _)
  rwa [List.take_length] at this
theorem cls_nat : ∀ {l : List Int}, (∀ x ∈ l, 0 ≤ x) → castL (l.map Int.toNat) = l
  | [], _ => rfl
  | x :: l, h => by
    have h1 := h x (by simp)
    have := cls_nat (l := l) (fun y hy => h y (by simp [hy]))
    unfold castL at *
    rw [List.map_cons, List.map_cons, this]
    congr 1
    omega
theorem nums_nats : ∀ {l : List Int}, numsB l = natsB (l.map Int.toNat)
  | l => by unfold numsB natsB; rw [List.flatMap_map]
theorem hvN (s : Stp) : (hv s).map Int.toNat = [1, 1, s.f.toNat, s.room.toNat, s.pat.toNat, if s.ung = true then 1 else 0, s.cls.length] := by
  unfold hv plainN
  simp only [List.map_cons, List.map_nil]
  split <;> simp
theorem headR_head {s : Stp} (hc : chkS s = 0) (hso : StpOk s) : headR (headB s) = (s, true) := by
  obtain ⟨h1, h2, h3⟩ := chk_inv hc
  have hpos : ∀ x ∈ s.cls, 0 ≤ x := fun x hx => by
    obtain ⟨i, hi, rfl⟩ := List.getElem_of_mem hx
    exact any_no h3 hi
  unfold cfgOk at h1
  generalize hbb : headB s = b
  have hmx : maxI = 9223372036854775807 := rfl
  have hb : natsB ((hv s).map Int.toNat) ++ natsB (s.cls.map Int.toNat) = b := by rw [← hbb]; unfold headB; rw [nums_nats, nums_nats]
  have p2 : [] ++ natsB ((hv s).map Int.toNat) <+: b := by rw [← hb]; exact List.prefix_append _ _
  obtain ⟨a1, a2⟩ := rInts_all (Pre.start b) (l := (hv s).map Int.toNat) (fun v hv => by
    rw [hvN] at hv
    simp only [List.mem_cons, List.not_mem_nil, or_false] at hv
    rcases hv with rfl | rfl | rfl | rfl | rfl | rfl | rfl
    · omega
    · omega
    · omega
    · omega
    · omega
    · split <;> omega
    omega) p2 (k := 7) (by rw [hvN]; rfl)
  obtain ⟨c1, c2⟩ := rInts_all a2 (l := s.cls.map Int.toNat) (fun v hv => by
    obtain ⟨x, hx, rfl⟩ := List.mem_map.1 hv
    have := hso x hx
    omega) (by rw [List.nil_append, hb]; exact List.prefix_refl _) (k := s.cls.length) (by rw [List.length_map])
  have hV : ∀ j, VV b j = ((hv s).map Int.toNat).getD j 0 := fun j => by rw [← a1]; rfl
  rw [hvN] at hV
  have v0 : VV b 0 = 1 := hV 0
  have v1 : VV b 1 = 1 := hV 1
  have v2 : VV b 2 = s.f.toNat := hV 2
  have v3 : VV b 3 = s.room.toNat := hV 3
  have v4 : VV b 4 = s.pat.toNat := hV 4
  have v5 : VV b 5 = if s.ung = true then 1 else 0 := hV 5
  have v6 : VV b 6 = s.cls.length := hV 6
  have hS : headC b (VV b 6) = s := by
    unfold headC headS
    rw [v2, v3, v4, v5, v6, c1, cls_nat hpos]
    refine stp_eq ⟨by show ((s.f.toNat : Nat) : Int) = s.f; omega, by show ((s.room.toNat : Nat) : Int) = s.room; omega, by show ((s.pat.toNat : Nat) : Int) = s.pat; omega, ?_⟩ rfl
    cases s.ung <;> rfl
  unfold headR
  rw [if_neg (by
    rw [v0, v1, v5, v6]
    rintro (h | h | h | h)
    · exact h rfl
    · exact h rfl
    · split at h <;> omega
    omega), hS, hc]
  rw [v6, rEnd_pre (c2.of (by rw [List.nil_append, hb]))]
  rfl
/-! the foot -/
theorem footR_foot {n : Nat} {pl : List Nat} {ah : List UInt8} (hn : n ≤ maxI) (hk : pl.length ≤ maxI) (hp : ∀ x ∈ pl, x ≤ maxI) (hs : (shaL ah).length = 32) : footR (footB n pl ah) = (n, pl, true) := by
  generalize hbb : footB n pl ah = b
  have hb : natsB [3, n, pl.length] ++ natsB pl ++ (formL (shaL ah).length ++ shaL ah) = b := by
    rw [← hbb, hs]; unfold footB
    rw [show [3, n, pl.length] = [3] ++ [n] ++ [pl.length] from rfl, natsB_app, natsB_app, natsB_one, natsB_one, natsB_one]
    simp only [List.append_assoc]
  have p3 : natsB [3, n, pl.length] ++ natsB pl ++ (formL (shaL ah).length ++ shaL ah) <+: b := by rw [hb]; exact List.prefix_refl _
  have p2 := (List.prefix_append (natsB [3, n, pl.length] ++ natsB pl) (formL (shaL ah).length ++ shaL ah)).trans p3
  have p1 : [] ++ natsB [3, n, pl.length] <+: b := (List.prefix_append _ (natsB pl)).trans p2
  have h3m : 3 ≤ maxI := by decide
  obtain ⟨a1, a2⟩ := rInts_all (Pre.start b) (l := [3, n, pl.length]) (fun v hv => by
    simp only [List.mem_cons, List.not_mem_nil, or_false] at hv
    rcases hv with rfl | rfl | rfl <;> assumption) p1 (k := 3) rfl
  obtain ⟨c1, c2⟩ := rInts_all a2 (l := pl) hp (by rw [List.nil_append]; exact p2) (k := pl.length) rfl
  obtain ⟨d1, d2⟩ := rText_pre (m := 32) (t := shaL ah) c2 (by decide) (by omega) (by rw [List.nil_append]; exact p3)
  have hge : pl.length ≤ b.length := by
    have h1 := p2.length_le
    have h2 : ∀ l : List Nat, l.length ≤ (natsB l).length := fun l => by
      induction l with
      | nil => exact Nat.zero_le _
      | cons x l ih =>
        rw [show x :: l = [x] ++ l from rfl, natsB_app, natsB_one, List.length_append, List.length_append]
        have := List.length_pos_iff.2 (form_ne x)
        simp only [List.length_cons, List.length_nil]; omega
    have := h2 pl
    rw [List.length_append] at h1; omega
  unfold footR
  simp only []
  rw [a1]
  simp only [List.getD_cons_zero, List.getD_cons_succ]
  rw [if_neg (by rintro (h | h); exact h rfl; omega), c1, d1, hs, rEnd_pre (d2.of (by rw [List.nil_append, hb]))]
  rfl
theorem number_pre {b : List UInt8} {v : Nat} (hv : v ≤ maxI) (h : formL v <+: b) : numberR b = (v : Int) := by
  obtain ⟨a1, a2⟩ := rInt_pre (m := maxI) (Pre.start b) (by decide) hv (by rw [List.nil_append]; exact h)
  unfold numberR
  rw [if_neg (by
    rw [a2.at_]
    have := List.length_pos_iff.2 (form_ne v)
    rw [List.length_append]; omega), a1]
theorem number_foot (n : Nat) (pl : List Nat) (ah : List UInt8) : numberR (footB n pl ah) = 3 := number_pre (by decide) (by unfold footB; exact ⟨formL n ++ formL pl.length ++ natsB pl ++ formL 32 ++ shaL ah, by simp only [List.append_assoc]⟩)
theorem number_chunk (f : Nat) (ts : List (List UInt8)) : numberR (chunkB f ts) = 2 := number_pre (by decide) (by unfold chunkB; exact ⟨formL f ++ formL ts.length ++ catL ts, by simp only [List.append_assoc]⟩)
/-! a chunk -/
def evOf (t : List UInt8) : Evt := (getEv t).1
theorem ego_pre {b x : List UInt8} {s : Rs} (h : Pre b s x) {ts : List (List UInt8)} (hg : ∀ t ∈ ts, (getEv t).2 = 0 ∧ t.length ≤ 32768) (hp : x ++ catL ts <+: b) : ∀ i, i ≤ ts.length → ∃ s', ego b s i = some ((ts.take i).map evOf, ts.take i, s') ∧ Pre b s' (x ++ catL (ts.take i))
  | 0, _ => ⟨s, by rw [List.take_zero]; rfl, by rw [List.take_zero]; exact h.of (by unfold catL; simp)⟩
  | i + 1, hi => by
    obtain ⟨s', h1, h2⟩ := ego_pre h hg hp i (by omega)
    have ht : ts.take (i + 1) = ts.take i ++ [ts[i]] := List.take_succ_eq_append_getElem (by omega)
    obtain ⟨g1, g2⟩ := hg _ (List.getElem_mem (by omega : i < ts.length))
    have hpp : x ++ catL (ts.take i) ++ (formL ts[i].length ++ ts[i]) <+: b := by
      refine List.IsPrefix.trans ?_ hp
      rw [List.append_assoc, ← List.append_assoc (catL _), ← cat_snoc, ← ht]
      refine (List.prefix_append_right_inj x).2 ?_
      have : catL ts = catL (ts.take (i + 1)) ++ catL (ts.drop (i + 1)) := by
        conv => lhs; rw [← List.take_append_drop (i + 1) ts]
        unfold catL; rw [List.flatMap_append]
      rw [this]
      exact List.prefix_append _ _
    obtain ⟨a1, a2⟩ := rText_pre (m := 32768) (t := ts[i]) h2 (by decide) g2 hpp
    refine ⟨(rText b 32768 s').2, ?_, ?_⟩
    · rw [ego, h1]
      simp only []
      rw [a1, if_neg (by simpa using g1), ht, List.map_append]
      rfl
    rw [ht, cat_snoc]
    exact a2.of (by simp only [List.append_assoc])
theorem eventsR_chunk {f : Nat} {ts : List (List UInt8)} (hf : f ≤ maxI) (h1 : 1 ≤ ts.length) (h32 : ts.length ≤ 32) (hg : ∀ t ∈ ts, (getEv t).2 = 0 ∧ t.length ≤ 32768) : eventsR (chunkB f ts) = (f, ts.map evOf, ts, true) := by
  generalize hbb : chunkB f ts = b
  have hb : natsB [2, f, ts.length] ++ catL ts = b := by
    rw [← hbb]; unfold chunkB
    rw [show [2, f, ts.length] = [2] ++ [f] ++ [ts.length] from rfl, natsB_app, natsB_app, natsB_one, natsB_one, natsB_one]
  have p2 : natsB [2, f, ts.length] ++ catL ts <+: b := by rw [hb]; exact List.prefix_refl _
  have p1 : [] ++ natsB [2, f, ts.length] <+: b := (List.prefix_append _ (catL ts)).trans p2
  have h2m : 2 ≤ maxI := by decide
  have hlm : ts.length ≤ maxI := Nat.le_trans h32 (by decide)
  obtain ⟨a1, a2⟩ := rInts_all (Pre.start b) (l := [2, f, ts.length]) (fun v hv => by
    simp only [List.mem_cons, List.not_mem_nil, or_false] at hv
    rcases hv with rfl | rfl | rfl <;> assumption) p1 (k := 3) rfl
  obtain ⟨s', e1, e2⟩ := ego_pre a2 hg (by rw [List.nil_append]; exact p2) ts.length (Nat.le_refl _)
  rw [List.take_length] at e1 e2
  unfold eventsR
  rw [a1]
  simp only [List.getD_cons_zero, List.getD_cons_succ]
  rw [if_neg (by rintro (h | h | h); exact h rfl; omega; omega), e1]
  simp only []
  rw [rEnd_pre (e2.of (by rw [List.nil_append, hb]))]
  rfl
end Go.Proofs.YtfpmnhmdphaceaaDoor
namespace Go.Proofs.YtfpmnhmdphaceaaDoor
open Go.EW
set_option linter.unusedVariables false
set_option linter.unusedSimpArgs false
attribute [local irreducible] crcL shaL sealL sealR openR
/-! how a tape lays its events into chunks -/
abbrev Txt := List UInt8
/-- what is laid down: the file, the chunks' places, how many events -/
structure Lay where
  file : Txt
  places : List Nat
  n : Nat
def layC (l : Lay) (c : List Txt) : Lay := ⟨l.file ++ frameC l.n c, l.places ++ [l.file.length], l.n + c.length⟩
def layL (h : Txt) (cs : List (List Txt)) : Lay := cs.foldl layC ⟨h, [], 0⟩
theorem lay_snoc (h : Txt) (cs : List (List Txt)) (c : List Txt) : layL h (cs ++ [c]) = layC (layL h cs) c := List.foldl_append
def cnt (cs : List (List Txt)) : Nat := (cs.map List.length).sum
theorem cnt_snoc (cs : List (List Txt)) (c : List Txt) : cnt (cs ++ [c]) = cnt cs + c.length := by
  unfold cnt; rw [List.map_append, List.sum_append]; simp
theorem cnt_flat (cs : List (List Txt)) : cnt cs = cs.flatten.length := by unfold cnt; rw [List.length_flatten]
theorem lay_n (h : Txt) (cs : List (List Txt)) : (layL h cs).n = cnt cs := by
  have : ∀ (cs : List (List Txt)) (l : Lay), (cs.foldl layC l).n = l.n + cnt cs := fun cs => by
    induction cs with
    | nil => intro l; rfl
    | cons c cs ih =>
      intro l
      rw [List.foldl_cons, ih]
      show l.n + c.length + cnt cs = _
      unfold cnt
      rw [List.map_cons, List.sum_cons, Nat.add_assoc]
  have h1 := this cs ⟨h, [], 0⟩
  unfold layL
  rw [h1]; exact Nat.zero_add _
theorem takeS {α : Type} {l : List α} {i : Nat} {c : α} (h : l[i]? = some c) : l.take (i + 1) = l.take i ++ [c] := by
  obtain ⟨hi, rfl⟩ := List.getElem?_eq_some_iff.1 h
  exact List.take_succ_eq_append_getElem hi
theorem lay_take {h : Txt} {cs : List (List Txt)} {i : Nat} {c : List Txt} (hc : cs[i]? = some c) : layL h (cs.take (i + 1)) = layC (layL h (cs.take i)) c := by
  rw [takeS hc, lay_snoc]
/-- the first i chunks stand ahead -/
theorem lay_pre (h : Txt) (cs : List (List Txt)) : ∀ j i, i ≤ j → (layL h (cs.take i)).file <+: (layL h (cs.take j)).file
  | 0, i, hi => by rw [show i = 0 by omega]; exact List.prefix_refl _
  | j + 1, i, hi => by
    rcases Nat.eq_or_lt_of_le hi with rfl | h1
    · exact List.prefix_refl _
    refine (lay_pre h cs j i (by omega)).trans ?_
    cases hc : cs[j]? with
    | none =>
      rw [List.getElem?_eq_none_iff] at hc
      rw [List.take_of_length_le hc, List.take_of_length_le (by omega)]
      exact List.prefix_refl _
    | some c => rw [lay_take hc]; exact List.prefix_append _ _
theorem lay_pre_all (h : Txt) (cs : List (List Txt)) (i : Nat) : (layL h (cs.take i)).file <+: (layL h cs).file := by
  have := lay_pre h cs (max i cs.length) i (Nat.le_max_left _ _)
  rwa [List.take_of_length_le (l := cs) (i := max i cs.length) (Nat.le_max_right _ _)] at this
theorem lay_places (h : Txt) (cs : List (List Txt)) : ∀ i, i ≤ cs.length → (layL h (cs.take i)).places.length = i ∧ ∀ j, j < i → (layL h (cs.take i)).places[j]? = some (layL h (cs.take j)).file.length
  | 0, _ => ⟨rfl, fun j hj => absurd hj (by omega)⟩
  | i + 1, hi => by
    obtain ⟨h1, h2⟩ := lay_places h cs i (by omega)
    have hc : cs[i]? = some cs[i] := List.getElem?_eq_getElem hi
    rw [lay_take hc]
    refine ⟨by show (_ ++ [_]).length = _; rw [List.length_append, h1]; rfl, fun j hj => ?_⟩
    show (_ ++ [_])[j]? = _
    rcases Nat.lt_or_ge j i with h3 | h3
    · rw [List.getElem?_append_left (by omega)]; exact h2 j h3
    obtain rfl : j = i := by omega
    rw [List.getElem?_append_right (by omega), h1, Nat.sub_self]; rfl
/-- the chunks that are full, the chunk at hand -/
structure CS where
  cs : List (List Txt)
  cur : List Txt
def fitC (c : CS) (b : Txt) : Bool := fitsN (cnt c.cs) c.cur.length (sizeT c.cur) b.length
def addC (c : CS) (b : Txt) : CS := if c.cur.length > 0 ∧ fitC c b = false then ⟨c.cs ++ [c.cur], [b]⟩ else ⟨c.cs, c.cur ++ [b]⟩
def csOf (ts : List Txt) : CS := ts.foldl addC ⟨[], []⟩
theorem csOf_snoc (ts : List Txt) (b : Txt) : csOf (ts ++ [b]) = addC (csOf ts) b := List.foldl_append
def allC (c : CS) : List (List Txt) := if c.cur.length > 0 then c.cs ++ [c.cur] else c.cs
def chsOf (ts : List Txt) : List (List Txt) := allC (csOf ts)
structure Rep (h : Txt) (t : TS) (c : CS) : Prop where
  file : t.file = (layL h c.cs).file
  places : t.places = (layL h c.cs).places
  first : t.first = cnt c.cs
  texts : t.texts = c.cur
  n : t.n = cnt c.cs + c.cur.length
theorem Rep.new (s : Stp) : Rep (sealR (headB s)).1 (newT s) (csOf []) := ⟨rfl, rfl, rfl, rfl, rfl⟩
theorem Rep.add {h : Txt} {t : TS} {c : CS} (r : Rep h t c) (b : Txt) : Rep h (addT t b) (addC c b) := by
  have hf : fitsT t b = fitC c b := by unfold fitsT fitC; rw [r.first, r.texts]
  unfold addT addC
  rw [hf, r.texts]
  by_cases hc : c.cur.length > 0 ∧ fitC c b = false
  · rw [if_pos hc, if_pos hc]
    refine ⟨?_, ?_, ?_, rfl, ?_⟩
    · show t.file ++ frameC t.first t.texts = _
      rw [lay_snoc, r.file, r.first, r.texts]
      show _ = _ ++ frameC (layL h c.cs).n c.cur
      rw [lay_n]
    · show t.places ++ [t.file.length] = _
      rw [lay_snoc, r.file, r.places]; rfl
    · show t.n = _
      rw [r.n, cnt_snoc]
    show t.n + 1 = _
    rw [r.n, cnt_snoc]; rfl
  rw [if_neg hc, if_neg hc]
  refine ⟨r.file, r.places, r.first, by show t.texts ++ [b] = _; rw [r.texts], ?_⟩
  show t.n + 1 = _
  rw [r.n, List.length_append]; rfl
theorem Rep.out {h : Txt} {t : TS} {c : CS} (r : Rep h t c) : outT t = (layL h (allC c)).file ∧ plT t = (layL h (allC c)).places := by
  unfold outT plT allC
  rw [r.texts]
  by_cases hc : c.cur.length > 0
  · rw [if_pos hc, if_pos hc, if_pos hc, lay_snoc, r.file, r.places, r.first]
    refine ⟨?_, rfl⟩
    show _ = _ ++ frameC (layL h c.cs).n c.cur
    rw [lay_n]
  rw [if_neg hc, if_neg hc, if_neg hc]
  exact ⟨r.file, r.places⟩
theorem rep_of (s : Stp) : ∀ (ts us : List Txt) (t : TS), Rep (sealR (headB s)).1 t (csOf us) → Rep (sealR (headB s)).1 (ts.foldl addT t) (csOf (us ++ ts))
  | [], us, t, h => by rw [List.append_nil]; exact h
  | b :: ts, us, t, h => by
    have := rep_of s ts (us ++ [b]) (addT t b) (by rw [csOf_snoc]; exact h.add b)
    rwa [List.append_assoc] at this
theorem rep_all (s : Stp) (ts : List Txt) : Rep (sealR (headB s)).1 (ts.foldl addT (newT s)) (csOf ts) := by
  have := rep_of s ts [] (newT s) (Rep.new s)
  rwa [List.nil_append] at this
/-- a chunk that may be -/
structure OkC (f : Nat) (c : List Txt) : Prop where
  pos : 1 ≤ c.length
  cnt : c.length ≤ 32
  size : (chunkB f c).length ≤ 32756
/-- chunks that are as full as may be -/
structure Grd (cs : List (List Txt)) : Prop where
  ok : ∀ i c, cs[i]? = some c → OkC (cnt (cs.take i)) c
  full : ∀ i c d, cs[i]? = some c → cs[i + 1]? = some d → fitsN (cnt (cs.take i)) c.length (sizeT c) (d.headD []).length = false
theorem Grd.nil : Grd [] := ⟨fun i c h => by simp at h, fun i c d h _ => by simp at h⟩
theorem get_snoc {α : Type} {l : List α} {x y : α} {i : Nat} (h : (l ++ [x])[i]? = some y) : (i < l.length ∧ l[i]? = some y) ∨ (i = l.length ∧ y = x) := by
  rcases Nat.lt_or_ge i l.length with h1 | h1
  · rw [List.getElem?_append_left h1] at h; exact .inl ⟨h1, h⟩
  rw [List.getElem?_append_right h1] at h
  rcases Nat.eq_zero_or_pos (i - l.length) with h2 | h2
  · rw [h2] at h
    exact .inr ⟨by omega, by simpa using h.symm⟩
  rw [List.getElem?_eq_none_iff.2 (by simp; omega)] at h; cases h
theorem Grd.snoc {cs : List (List Txt)} {d : List Txt} (h : Grd cs) (hd : OkC (cnt cs) d) (hf : ∀ c, cs[cs.length - 1]? = some c → fitsN (cnt (cs.take (cs.length - 1))) c.length (sizeT c) (d.headD []).length = false) : Grd (cs ++ [d]) := by
  constructor
  · intro i c hi
    rcases get_snoc hi with ⟨h1, h2⟩ | ⟨rfl, rfl⟩
    · rw [List.take_append_of_le_length (by omega)]; exact h.ok i c h2
    rw [List.take_left]; exact hd
  intro i c e hi he
  rcases get_snoc hi with ⟨h1, h2⟩ | ⟨rfl, rfl⟩
  · rw [List.take_append_of_le_length (by omega)]
    rcases get_snoc he with ⟨h3, h4⟩ | ⟨h3, rfl⟩
    · exact h.full i c e h2 h4
    have : i = cs.length - 1 := by omega
    subst this
    exact hf c h2
  rcases get_snoc he with ⟨h3, h4⟩ | ⟨h3, rfl⟩ <;> omega
/-- the last chunk grows -/
theorem Grd.grow {cs : List (List Txt)} {c d : List Txt} (h : Grd (cs ++ [c])) (hd : OkC (cnt cs) d) (hh : d.headD [] = c.headD []) : Grd (cs ++ [d]) := by
  have hn : ∀ i, i < cs.length → (cs ++ [c])[i]? = cs[i]? := fun i hi => List.getElem?_append_left hi
  constructor
  · intro i x hi
    rcases get_snoc hi with ⟨h1, h2⟩ | ⟨rfl, rfl⟩
    · have := h.ok i x (by rw [hn i h1]; exact h2)
      rw [List.take_append_of_le_length (by omega)] at this ⊢
      exact this
    rw [List.take_left]; exact hd
  intro i x e hi he
  rcases get_snoc hi with ⟨h1, h2⟩ | ⟨rfl, rfl⟩
  · rcases get_snoc he with ⟨h3, h4⟩ | ⟨h3, rfl⟩
    · have := h.full i x e (by rw [hn i h1]; exact h2) (by rw [hn _ h3]; exact h4)
      rw [List.take_append_of_le_length (by omega)] at this ⊢
      exact this
    have := h.full i x c (by rw [hn i h1]; exact h2) (by rw [h3, List.getElem?_append_right (Nat.le_refl _), Nat.sub_self]; rfl)
    rw [List.take_append_of_le_length (by omega)] at this ⊢
    rw [hh]; exact this
  rcases get_snoc he with ⟨h3, h4⟩ | ⟨h3, rfl⟩ <;> omega
theorem fits_len {f : Nat} {c : List Txt} {b : Txt} (h : fitsN f c.length (sizeT c) b.length = true) : c.length < 32 ∧ (chunkB f (c ++ [b])).length ≤ 32756 := by
  unfold fitsN at h
  simp only [Bool.and_eq_true, decide_eq_true_eq] at h
  rw [chunkB_len, sizeT_snoc, List.length_append]
  exact h
theorem ok_one (f : Nat) {b : Txt} (hb : b.length ≤ 20000) : OkC f [b] := by
  refine ⟨Nat.le_refl _, (show 1 ≤ 32 by decide), ?_⟩
  rw [chunkB_len]
  have h1 := (szN_le f).2
  have h2 := (szN_le [b].length).2
  have h3 := (szN_le b.length).2
  have h4 : sizeT [b] = szN b.length + b.length := by unfold sizeT; simp
  omega
structure CInv (c : CS) : Prop where
  grd : Grd (allC c)
  emp : c.cur.length = 0 → c.cs = []
theorem CInv.add {c : CS} (h : CInv c) {b : Txt} (hb : b.length ≤ 20000) : CInv (addC c b) := by
  unfold addC
  by_cases hc : c.cur.length > 0 ∧ fitC c b = false
  · rw [if_pos hc]
    refine ⟨?_, fun h => by simp at h⟩
    have hg := h.grd
    unfold allC at hg ⊢
    rw [if_pos hc.1] at hg
    rw [if_pos (show [b].length > 0 from Nat.one_pos)]
    refine hg.snoc (ok_one _ hb) (fun x hx => ?_)
    rw [List.length_append, show c.cs.length + [c.cur].length - 1 = c.cs.length by simp] at hx ⊢
    rw [List.getElem?_append_right (Nat.le_refl _), Nat.sub_self] at hx
    obtain rfl : c.cur = x := by simpa using hx
    rw [List.take_left]
    exact hc.2
  rw [if_neg hc]
  refine ⟨?_, fun h => by simp at h⟩
  unfold allC
  rw [if_pos (show (c.cur ++ [b]).length > 0 by simp)]
  by_cases h0 : c.cur.length > 0
  · have hfit : fitC c b = true := by
      cases hf : fitC c b with
      | true => rfl
      | false => exact absurd ⟨h0, hf⟩ hc
    obtain ⟨h1, h2⟩ := fits_len (f := cnt c.cs) (c := c.cur) (b := b) hfit
    have hg := h.grd
    unfold allC at hg
    rw [if_pos h0] at hg
    refine hg.grow ⟨by simp, by rw [List.length_append]; exact h1, h2⟩ ?_
    cases hcur : c.cur with
    | nil => rw [hcur] at h0; exact absurd h0 (by decide)
    | cons x r => rfl
  have he := h.emp (by omega)
  have hce : c.cur = [] := List.length_eq_zero_iff.1 (by omega)
  rw [he, hce]
  exact Grd.nil.snoc (ok_one _ hb) (fun x hx => by simp at hx)
theorem cinv_of : ∀ (ts us : List Txt), CInv (csOf us) → (∀ t ∈ ts, t.length ≤ 20000) → CInv (csOf (us ++ ts))
  | [], us, h, _ => by rw [List.append_nil]; exact h
  | b :: ts, us, h, hb => by
    have := cinv_of ts (us ++ [b]) (by rw [csOf_snoc]; exact h.add (hb b (by simp))) (fun t ht => hb t (by simp [ht]))
    rwa [List.append_assoc] at this
theorem cinv_all {ts : List Txt} (hb : ∀ t ∈ ts, t.length ≤ 20000) : CInv (csOf ts) := by
  have := cinv_of ts [] ⟨Grd.nil, fun _ => rfl⟩ hb
  rwa [List.nil_append] at this
theorem flat_of : ∀ (ts us : List Txt), (allC (csOf us)).flatten = us → (allC (csOf (us ++ ts))).flatten = us ++ ts
  | [], us, h => by rw [List.append_nil]; exact h
  | b :: ts, us, h => by
    have := flat_of ts (us ++ [b]) (by
      rw [csOf_snoc]
      have key : ∀ c : CS, (allC (addC c b)).flatten = (allC c).flatten ++ [b] := fun c => by
        unfold addC
        by_cases hc : c.cur.length > 0 ∧ fitC c b = false
        · rw [if_pos hc]
          unfold allC
          rw [if_pos (show [b].length > 0 from Nat.one_pos), if_pos hc.1, List.flatten_append]
          simp
        rw [if_neg hc]
        unfold allC
        rw [if_pos (show (c.cur ++ [b]).length > 0 by simp), List.flatten_append]
        by_cases h0 : c.cur.length > 0
        · rw [if_pos h0, List.flatten_append]; simp
        rw [if_neg h0, List.length_eq_zero_iff.1 (show c.cur.length = 0 by omega)]; simp
      rw [key, h])
    rwa [List.append_assoc] at this
theorem flat_all (ts : List Txt) : (chsOf ts).flatten = ts := by
  have := flat_of ts [] rfl
  rwa [List.nil_append] at this
theorem grd_all {ts : List Txt} (hb : ∀ t ∈ ts, t.length ≤ 20000) : Grd (chsOf ts) := (cinv_all hb).grd
theorem cnt_all (ts : List Txt) : cnt (chsOf ts) = ts.length := by rw [cnt_flat, flat_all]
/-- a tape's file -/
def headF (s : Stp) : Txt := (sealR (headB s)).1
def layT (s : Stp) (ts : List Txt) : Lay := layL (headF s) (chsOf ts)
def fileL (s : Stp) (ts : List Txt) : Txt := (layT s ts).file ++ footC ts.length (layT s ts).places (layT s ts).file ++ be4 (footC ts.length (layT s ts).places (layT s ts).file).length
theorem file_all (s : Stp) (ts : List Txt) : fileT (ts.foldl addT (newT s)) = fileL s ts ∧ (ts.foldl addT (newT s)).n = ts.length := by
  have r := rep_all s ts
  obtain ⟨h1, h2⟩ := r.out
  have h3 : (ts.foldl addT (newT s)).n = ts.length := by
    rw [r.n, ← cnt_all ts]
    unfold chsOf allC
    split
    · rw [cnt_snoc]
    omega
  unfold fileT
  rw [h1, h2, h3]
  exact ⟨rfl, rfl⟩
end Go.Proofs.YtfpmnhmdphaceaaDoor
namespace Go.Proofs.YtfpmnhmdphaceaaDoor
open Go.EW
set_option linter.unusedVariables false
set_option linter.unusedSimpArgs false
attribute [local irreducible] crcL shaL sealL sealR openR
/-! what is laid down is scanned -/
/-- texts of events -/
def GoodT (ts : List Txt) : Prop := ∀ t ∈ ts, (getEv t).2 = 0 ∧ t.length ≤ 32768
/-- what is known behind m chunks -/
structure Sc (s : Stp) (h : Txt) (cs : List (List Txt)) (m : Nat) (x : SS) : Prop where
  stp : x.stp = s
  evs : x.evs = (cs.take m).flatten.map evOf
  pl : x.places = (layL h (cs.take m)).places
  last : ∀ i c, m = i + 1 → cs[i]? = some c → x.first = cnt (cs.take i) ∧ x.last = c
  none : m = 0 → x.last = []
theorem Sc.setR {s : Stp} {h : Txt} {cs : List (List Txt)} {m : Nat} {x : SS} (g : Sc s h cs m x) (r : Nat) : Sc s h cs m { x with right := r } := ⟨g.stp, g.evs, g.pl, g.last, g.none⟩
def qOf (h : Txt) (cs : List (List Txt)) (m : Nat) : Nat := (layL h (cs.take m)).file.length
theorem q_zero (h : Txt) (cs : List (List Txt)) : qOf h cs 0 = h.length := rfl
theorem flat_take {cs : List (List Txt)} {i : Nat} {c : List Txt} (hc : cs[i]? = some c) : (cs.take (i + 1)).flatten = (cs.take i).flatten ++ c := by
  rw [takeS hc, List.flatten_append]; simp
theorem cnt_take {cs : List (List Txt)} {i : Nat} {c : List Txt} (hc : cs[i]? = some c) : cnt (cs.take (i + 1)) = cnt (cs.take i) + c.length := by
  rw [takeS hc, cnt_snoc]
theorem frame_seal {f : Nat} {c : List Txt} (h : (chunkB f c).length ≤ 32756) : frameC f c = sealL (chunkB f c) := by
  unfold frameC; rw [sealR_ok h]
theorem q_succ {h : Txt} {cs : List (List Txt)} {i : Nat} {c : List Txt} (hc : cs[i]? = some c) (hl : (chunkB (cnt (cs.take i)) c).length ≤ 32756) : qOf h cs (i + 1) = qOf h cs i + ((chunkB (cnt (cs.take i)) c).length + 12) := by
  unfold qOf
  rw [lay_take hc]
  show (_ ++ frameC (layL h (cs.take i)).n c).length = _
  rw [lay_n, frame_seal hl, List.length_append, seal_len]
theorem q_mono {h : Txt} {cs : List (List Txt)} {i j : Nat} (hij : i ≤ j) : qOf h cs i ≤ qOf h cs j := (lay_pre h cs j i hij).length_le
/-- the frame of the next chunk -/
theorem drop_q {h bs : Txt} {cs : List (List Txt)} {i : Nat} {c : List Txt} (hc : cs[i]? = some c) (hl : (chunkB (cnt (cs.take i)) c).length ≤ 32756) (hp : (layL h (cs.take (i + 1))).file <+: bs) :
    ∃ rest, bs.drop (qOf h cs i) = sealL (chunkB (cnt (cs.take i)) c) ++ rest := by
  obtain ⟨r, rfl⟩ := hp
  refine ⟨r, ?_⟩
  rw [lay_take hc]
  show ((layL h (cs.take i)).file ++ frameC (layL h (cs.take i)).n c ++ r).drop _ = _
  rw [lay_n, frame_seal hl, List.append_assoc]
  unfold qOf
  rw [List.drop_left]
theorem body_q {h bs : Txt} {cs : List (List Txt)} {i : Nat} {c : List Txt} (hc : cs[i]? = some c) (ok : OkC (cnt (cs.take i)) c) (hp : (layL h (cs.take (i + 1))).file <+: bs) :
    bodyR bs (qOf h cs i) = (chunkB (cnt (cs.take i)) c, (chunkB (cnt (cs.take i)) c).length + 12, 0) := by
  obtain ⟨r, hr⟩ := drop_q hc ok.size hp
  exact bodyR_seal ok.size hr
theorem good_chunk {cs : List (List Txt)} {i : Nat} {c : List Txt} (hc : cs[i]? = some c) (hg : GoodT cs.flatten) : GoodT c := fun t ht =>
  hg t (List.mem_flatten.2 ⟨c, List.mem_of_getElem? hc, ht⟩)
theorem cnt_mono {cs : List (List Txt)} {i : Nat} : cnt (cs.take i) ≤ cnt cs := by
  have : cnt cs = cnt (cs.take i) + cnt (cs.drop i) := by
    conv => lhs; rw [← List.take_append_drop i cs]
    unfold cnt
    rw [List.map_append, List.sum_append]
  omega
/-- one chunk is scanned -/
theorem chunk_q {s : Stp} {h : Txt} {cs : List (List Txt)} {i : Nat} {c : List Txt} {x : SS} (hS : Sc s h cs i x) (hc : cs[i]? = some c) (hgr : Grd cs) (hg : GoodT cs.flatten) (hcnt : cnt (cs.take (i + 1)) ≤ 4096) (q : Nat) (hq : q = qOf h cs i) :
    (chunkR x (chunkB (cnt (cs.take i)) c) q).1 = true ∧ Sc s h cs (i + 1) (chunkR x (chunkB (cnt (cs.take i)) c) q).2 := by
  have ok := hgr.ok i c hc
  have hcs := cnt_take hc
  have hev := eventsR_chunk (f := cnt (cs.take i)) (ts := c) (by have : maxI = 9223372036854775807 := rfl; omega) ok.pos ok.cnt (good_chunk hc hg)
  have hlen : x.evs.length = cnt (cs.take i) := by rw [hS.evs, List.length_map, ← cnt_flat]
  have hno : ¬ ((eventsR (chunkB (cnt (cs.take i)) c)).2.2.2 = false ∨ (eventsR (chunkB (cnt (cs.take i)) c)).1 ≠ x.evs.length ∨ 4096 < x.evs.length + (eventsR (chunkB (cnt (cs.take i)) c)).2.1.length ∨ (x.last.length > 0 ∧ fitsN x.first x.last.length (sizeT x.last) ((eventsR (chunkB (cnt (cs.take i)) c)).2.2.1.headD []).length = true)) := by
    rw [hev, hlen]
    rintro (h1 | h1 | h1 | ⟨h1, h2⟩)
    · cases h1
    · exact h1 rfl
    · simp only [List.length_map] at h1; omega
    cases i with
    | zero => rw [hS.none rfl] at h1; exact absurd h1 (by decide)
    | succ j =>
      cases hd : cs[j]? with
      | none =>
        rw [List.getElem?_eq_none_iff] at hd
        rw [List.getElem?_eq_none_iff.2 (by omega)] at hc; cases hc
      | some d =>
        obtain ⟨e1, e2⟩ := hS.last j d rfl hd
        have := hgr.full j d c hd hc
        rw [e1, e2] at h2
        rw [this] at h2; cases h2
  unfold chunkR
  rw [if_neg hno]
  refine ⟨rfl, ?_⟩
  rw [hev]
  refine ⟨hS.stp, ?_, ?_, ?_, fun h => absurd h (by omega)⟩
  · show x.evs ++ _ = _
    rw [hS.evs, flat_take hc, List.map_append]
  · show x.places ++ [q] = _
    rw [lay_take hc, hS.pl, hq]; rfl
  intro j d hj hd
  obtain rfl : j = i := by omega
  rw [hc] at hd
  cases hd
  exact ⟨rfl, rfl⟩
/-- m chunks are scanned -/
theorem loop_q {s : Stp} {h bs : Txt} {cs : List (List Txt)} {x : SS} (hS : Sc s h cs 0 x) (hgr : Grd cs) (hg : GoodT cs.flatten) : ∀ (m k : Nat), m ≤ cs.length → (layL h (cs.take m)).file <+: bs → cnt (cs.take m) ≤ 4096 →
    ∃ y, Sc s h cs m y ∧ loopR bs (k + m) x h.length = loopR bs k y (qOf h cs m)
  | 0, k, _, _, _ => ⟨x, hS, rfl⟩
  | m + 1, k, hm, hp, hc4 => by
    have hc : cs[m]? = some cs[m] := List.getElem?_eq_getElem hm
    have hct := cnt_take hc
    obtain ⟨y, h1, h2⟩ := loop_q hS hgr hg m (k + 1) (by omega) ((lay_pre h cs (m + 1) m (by omega)).trans hp) (by omega)
    have ok := hgr.ok m _ hc
    have hb := body_q hc ok hp
    obtain ⟨c1, c2⟩ := chunk_q (h1.setR (qOf h cs m)) hc hgr hg hc4 (qOf h cs m) rfl
    refine ⟨_, c2, ?_⟩
    rw [show k + (m + 1) = k + 1 + m by omega, h2, loopR, hb]
    simp only []
    rw [number_chunk, if_neg (by simp), if_neg (by decide), c1, if_neg (by simp), ← q_succ hc ok.size]
theorem sc_zero (s : Stp) (h : Txt) (cs : List (List Txt)) : Sc s h cs 0 { ss0 with stp := s } := ⟨rfl, rfl, rfl, fun i c hi => absurd hi (by omega), fun _ => rfl⟩
theorem headB_len {s : Stp} (hc : chkS s = 0) : (headB s).length ≤ 32756 := by
  obtain ⟨_, h2, _⟩ := chk_inv hc
  have h1 := numsB_len (hv s)
  have h3 := numsB_len s.cls
  have h4 : (hv s).length = 7 := rfl
  unfold headB
  rw [List.length_append]; omega
theorem headF_seal {s : Stp} (hc : chkS s = 0) : headF s = sealL (headB s) := by unfold headF; rw [sealR_ok (headB_len hc)]
/-- a file that begins so is scanned so far -/
theorem run_q {s : Stp} {bs : Txt} {cs : List (List Txt)} (hc : chkS s = 0) (hso : StpOk s) (hgr : Grd cs) (hg : GoodT cs.flatten) {m : Nat} (hm : m ≤ cs.length) (hp : (layL (headF s) (cs.take m)).file <+: bs) (hc4 : cnt (cs.take m) ≤ 4096) :
    ∃ y k, Sc s (headF s) cs m y ∧ runR bs = loopR bs (k + 1) y (qOf (headF s) cs m) := by
  have hh := headF_seal hc
  have hq0 := lay_pre (headF s) cs m 0 (Nat.zero_le _)
  obtain ⟨r, hr⟩ := hq0.trans hp
  have hr : headF s ++ r = bs := hr
  have hb : bodyR bs 0 = (headB s, (headB s).length + 12, 0) := bodyR_seal (headB_len hc) (by rw [List.drop_zero, ← hh]; exact hr.symm)
  have hle : m ≤ bs.length := by
    have h1 := hp.length_le
    have h2 : ∀ i, i ≤ m → i ≤ qOf (headF s) cs i := fun i => by
      induction i with
      | zero => intro _; exact Nat.zero_le _
      | succ i ih =>
        intro hi
        have hci : cs[i]? = some (cs[i]'(by omega)) := List.getElem?_eq_getElem (by omega)
        rw [q_succ hci (hgr.ok i _ hci).size]
        have := ih (by omega); omega
    have := h2 m (Nat.le_refl _)
    unfold qOf at this; omega
  obtain ⟨y, h1, h2⟩ := loop_q (bs := bs) (sc_zero s (headF s) cs) hgr hg m (bs.length - m + 1) hm hp hc4
  refine ⟨y, bs.length - m, h1, ?_⟩
  unfold runR
  rw [hb]
  simp only []
  rw [headR_head hc hso, if_neg (by simp), if_neg (by simp), ← h2, show bs.length - m + 1 + m = bs.length + 1 by omega, hh, seal_len]
/-! the ends -/
theorem loop_foot {s : Stp} {h bs x : Txt} {cs : List (List Txt)} {m k : Nat} {y : SS} (hS : Sc s h cs m y) {n : Nat} {pl : List Nat} (hn : n = cnt (cs.take m)) (hpl : pl = (layL h (cs.take m)).places) (hbs : bs.take (qOf h cs m) = (layL h (cs.take m)).file)
    (hf : (footR (footB n pl (layL h (cs.take m)).file)).2.2 = true) (hl : (footB n pl (layL h (cs.take m)).file).length ≤ 32756) {rest : Txt} (hd : bs.drop (qOf h cs m) = sealL (footB n pl (layL h (cs.take m)).file) ++ rest) (q2 : Nat) (hq2 : q2 = qOf h cs m + ((footB n pl (layL h (cs.take m)).file).length + 12)) :
    loopR bs (k + 1) y (qOf h cs m) = (if rest.length < 4 then (222, q2, { y with right := q2 }) else if rest.take 4 ≠ be4 ((footB n pl (layL h (cs.take m)).file).length + 12) then (221, q2, { y with right := q2 }) else if 4 < rest.length then (220, q2 + 4, { y with right := q2 + 4 }) else (0, q2 + 4, { y with right := q2 + 4 })) := by
  have hb := bodyR_seal hl hd
  have hlen := congrArg List.length hd
  rw [List.length_drop, List.length_append, seal_len] at hlen
  have hev : y.evs.length = n := by rw [hS.evs, List.length_map, ← cnt_flat, hn]
  have hq : qOf h cs m ≤ bs.length := by
    rcases Nat.lt_or_ge bs.length (qOf h cs m) with h1 | h1
    · omega
    exact h1
  have hd2 : bs.drop (qOf h cs m + ((footB n pl (layL h (cs.take m)).file).length + 12)) = rest := by
    rw [← List.drop_drop, hd, ← seal_len, List.drop_left]
  have hfc : footC n pl (layL h (cs.take m)).file = sealL (footB n pl (layL h (cs.take m)).file) := by unfold footC; rw [sealR_ok hl]
  have ht : (bs.drop (qOf h cs m)).take ((footB n pl (layL h (cs.take m)).file).length + 12) = sealL (footB n pl (layL h (cs.take m)).file) := by rw [hd, ← seal_len, List.take_left]
  rw [loopR, hb]
  simp only []
  rw [number_foot, if_neg (by simp), if_pos rfl]
  unfold tailR
  simp only []
  rw [hf, if_neg (by simp), hev, hS.pl, ← hpl, hbs, hfc, ht, if_neg (by simp), hd2]
  subst hq2
  by_cases h4 : rest.length < 4
  · rw [if_pos (by omega), if_pos h4]
  rw [if_neg (by omega), if_neg h4]
  split
  · rfl
  by_cases h5 : 4 < rest.length
  · rw [if_pos (by omega), if_pos h5]
  rw [if_neg (by omega), if_neg h5]
end Go.Proofs.YtfpmnhmdphaceaaDoor
namespace Go.Proofs.YtfpmnhmdphaceaaDoor
open Go.EW
set_option linter.unusedVariables false
set_option linter.unusedSimpArgs false
attribute [local irreducible] crcL shaL sealL sealR openR
theorem klen4 {v : Nat} (h : v < 4294967296) : klen v ≤ 4 := by
  obtain ⟨h8, hlt, h1⟩ := klen_spec (v := v) (by omega)
  rcases Nat.lt_or_ge 4 (klen v) with h5 | h5
  · have := h1 (by omega)
    have h2 : 2 ^ 32 ≤ 2 ^ (8 * (klen v - 1)) := Nat.pow_le_pow_right (by decide) (by omega)
    have h3 : v / 2 ^ (8 * (klen v - 1)) = 0 := Nat.div_eq_of_lt (by
      have : (2 : Nat) ^ 32 = 4294967296 := by decide
      omega)
    omega
  exact h5
theorem natsB_len5 : ∀ {l : List Nat}, (∀ x ∈ l, x < 4294967296) → (natsB l).length ≤ 5 * l.length
  | [], _ => Nat.zero_le _
  | x :: l, h => by
    have h1 := natsB_len5 (l := l) (fun y hy => h y (by simp [hy]))
    have h2 := klen4 (h x (by simp))
    rw [show x :: l = [x] ++ l from rfl, natsB_app, natsB_one, List.length_append, szN_len, List.length_append]
    unfold szN
    simp only [List.length_cons, List.length_nil]
    omega
theorem footB_len {n : Nat} {pl : List Nat} {ah : Txt} (hk : pl.length ≤ 5000) (hp : ∀ x ∈ pl, x < 4294967296) : (footB n pl ah).length ≤ 32756 := by
  have h1 := natsB_len5 hp
  have h2 := (szN_le 3).2
  have h3 := (szN_le n).2
  have h4 := (szN_le pl.length).2
  have h5 := (szN_le 32).2
  have h6 := shaL_len ah
  unfold footB
  simp only [List.length_append, szN_len]
  omega
/-- texts that a tape takes -/
structure TsOk (ts : List Txt) : Prop where
  good : ∀ t ∈ ts, (getEv t).2 = 0 ∧ t.length ≤ 20000
theorem TsOk.goodT {ts : List Txt} (h : TsOk ts) : GoodT ts := fun t ht => ⟨(h.good t ht).1, by have := (h.good t ht).2; omega⟩
theorem TsOk.len {ts : List Txt} (h : TsOk ts) : ∀ t ∈ ts, t.length ≤ 20000 := fun t ht => (h.good t ht).2
theorem TsOk.take {ts : List Txt} (h : TsOk ts) (n : Nat) : TsOk (ts.take n) := ⟨fun t ht => h.good t (List.mem_of_mem_take ht)⟩
theorem tok_of : ∀ (ts : List Txt) (t : TS), TOk2 t → (∀ x ∈ ts, x.length ≤ 20000) → t.n + ts.length ≤ 4096 → TOk2 (ts.foldl addT t)
  | [], t, h, _, _ => h
  | b :: ts, t, h, hb, hn => by
    rw [List.length_cons] at hn
    exact tok_of ts (addT t b) (h.addT b (hb b (by simp)) (by omega)) (fun x hx => hb x (by simp [hx])) (by rw [addT_n]; omega)
theorem tok_all (s : Stp) {ts : List Txt} (hb : ∀ x ∈ ts, x.length ≤ 20000) (hn : ts.length ≤ 4096) : TOk2 (ts.foldl addT (newT s)) := tok_of ts _ (TOk2.new s) hb (by show 0 + _ ≤ _; omega)
theorem lay_small (s : Stp) {ts : List Txt} (hb : ∀ x ∈ ts, x.length ≤ 20000) (hn : ts.length ≤ 4096) : (layT s ts).places.length ≤ 4097 ∧ (∀ x ∈ (layT s ts).places, x < 4294967296) ∧ (layT s ts).file.length ≤ 300000000 := by
  have hk := tok_all s hb hn
  obtain ⟨h1, h2⟩ := (rep_all s ts).out
  have h3 := plT_len hk.ok
  have h4 := outT_len hk.ok
  have h5 := hk.ok.flen
  unfold layT chsOf headF
  rw [← h1, ← h2]
  refine ⟨h3, ?_, h4⟩
  unfold plT
  intro x hx
  split at hx
  · rcases List.mem_append.1 hx with hx | hx
    · have := hk.pl x hx; omega
    obtain rfl := List.mem_singleton.1 hx; omega
  have := hk.pl x hx; omega
theorem footF_ok (s : Stp) {ts : List Txt} (hb : ∀ x ∈ ts, x.length ≤ 20000) (hn : ts.length ≤ 4096) :
    (footB ts.length (layT s ts).places (layT s ts).file).length ≤ 32756 ∧ footR (footB ts.length (layT s ts).places (layT s ts).file) = (ts.length, (layT s ts).places, true) ∧ footC ts.length (layT s ts).places (layT s ts).file = sealL (footB ts.length (layT s ts).places (layT s ts).file) := by
  obtain ⟨h1, h2, h3⟩ := lay_small s hb hn
  have hl : (footB ts.length (layT s ts).places (layT s ts).file).length ≤ 32756 := footB_len (by omega) h2
  have hm : maxI = 9223372036854775807 := rfl
  refine ⟨hl, footR_foot (by omega) (by omega) (fun x hx => by have := h2 x hx; omega) (shaL_len _), ?_⟩
  unfold footC; rw [sealR_ok hl]
/-- a whole file is scanned -/
theorem run_file {s : Stp} (hc : chkS s = 0) (hso : StpOk s) {ts : List Txt} (ht : TsOk ts) (hn : ts.length ≤ 4096) :
    ∃ y, runR (fileL s ts) = (0, (fileL s ts).length, y) ∧ y.stp = s ∧ y.evs = ts.map evOf ∧ y.right = (fileL s ts).length := by
  obtain ⟨hl, hf, hfc⟩ := footF_ok s ht.len hn
  have hfile : fileL s ts = (layT s ts).file ++ (sealL (footB ts.length (layT s ts).places (layT s ts).file) ++ be4 ((footB ts.length (layT s ts).places (layT s ts).file).length + 12)) := by
    unfold fileL; rw [hfc, seal_len, List.append_assoc]
  have hall : (chsOf ts).take (chsOf ts).length = chsOf ts := List.take_length
  obtain ⟨y, k, hS, hr⟩ := run_q (s := s) (bs := fileL s ts) (cs := chsOf ts) hc hso (grd_all ht.len) (by rw [flat_all]; exact ht.goodT) (m := (chsOf ts).length) (Nat.le_refl _) (by rw [hall, hfile]; exact List.prefix_append _ _) (by rw [hall, cnt_all]; exact hn)
  have hq : qOf (headF s) (chsOf ts) (chsOf ts).length = (layT s ts).file.length := by unfold qOf; rw [hall]; rfl
  have hlay : layL (headF s) ((chsOf ts).take (chsOf ts).length) = layT s ts := by rw [hall]; rfl
  have hlf := loop_foot (x := []) (k := k) hS (n := ts.length) (pl := (layT s ts).places) (by rw [hall, cnt_all]) (by rw [hlay]) (bs := fileL s ts) (by rw [hq, hlay, hfile, List.take_left]) (by rw [hlay, hf]) (by rw [hlay]; exact hl) (rest := be4 ((footB ts.length (layT s ts).places (layT s ts).file).length + 12)) (by rw [hq, hlay, hfile, List.drop_left]) _ rfl
  rw [hr, hlf]
  have e4 : ∀ x, (be4 x).length = 4 := fun _ => rfl
  have hflen : (fileL s ts).length = (layT s ts).file.length + ((footB ts.length (layT s ts).places (layT s ts).file).length + 12) + 4 := by
    rw [hfile, List.length_append, List.length_append, seal_len, e4]; omega
  rw [if_neg (by rw [e4]; decide), if_neg (by rw [hlay, List.take_of_length_le (by rw [e4]; decide)]; simp), if_neg (by rw [e4]; decide), hq, hlay, hflen]
  refine ⟨_, rfl, hS.stp, ?_, rfl⟩
  show y.evs = _
  rw [hS.evs, hall, flat_all]
theorem read_file {s : Stp} (hc : chkS s = 0) (hso : StpOk s) {ts : List Txt} (ht : TsOk ts) (hn : ts.length ≤ 4096) : readR (fileL s ts) = (s, ts.map evOf, 0, 0) := by
  obtain ⟨y, h1, h2, h3, h4⟩ := run_file hc hso ht hn
  unfold readR
  rw [h1, if_neg (by simp), h2, h3]
end Go.Proofs.YtfpmnhmdphaceaaDoor
