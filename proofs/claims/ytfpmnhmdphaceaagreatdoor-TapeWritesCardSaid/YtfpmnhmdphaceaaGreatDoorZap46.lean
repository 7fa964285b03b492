/- A part of this claim: laws of the tape's functions and of plain lists; no conditions beyond those that the theorems name. -/
import Derived.Test.YtfpmnhmdphaceaaGreatDoorZap45
import Derived.Test.YtfpmnhmdphaceaaGreatDoorZapP13
namespace Go.Proofs.YtfpmnhmdphaceaaGreatDoor
open Go.EW
attribute [local irreducible] EW.W EW.L EW.fin block8 outB shaL
set_option linter.unusedVariables false
set_option linter.unusedSimpArgs false
attribute [local irreducible] crcN crcB crcL sealL openR sealR
theorem lay_len (h : Txt) (cs : List (List Txt)) : ∀ i, (layL h (cs.take i)).file.length ≤ h.length + 32768 * i ∧ (layL h (cs.take i)).places.length ≤ i
  | 0 => ⟨by rw [List.take_zero]; exact Nat.le_refl _, by rw [List.take_zero]; exact Nat.le_refl _⟩
  | i + 1 => by
    obtain ⟨h1, h2⟩ := lay_len h cs i
    cases hc : cs[i]? with
    | none =>
      rw [List.getElem?_eq_none_iff] at hc
      rw [List.take_of_length_le (l := cs) (by omega)] at h1 h2 ⊢
      exact ⟨by omega, by omega⟩
    | some c =>
      rw [lay_take hc]
      have h3 : (frameC (layL h (cs.take i)).n c).length ≤ 32768 := seal_le _
      refine ⟨?_, ?_⟩
      · show List.length (_ ++ _) ≤ _
        rw [List.length_append]; omega
      show List.length (_ ++ [_]) ≤ _
      rw [List.length_append, List.length_singleton]; omega
theorem lay_pl_le (h : Txt) (cs : List (List Txt)) : ∀ i, ∀ x ∈ (layL h (cs.take i)).places, x ≤ (layL h (cs.take i)).file.length
  | 0, x, hx => by rw [List.take_zero] at hx; exact absurd hx (by simp [lay_nil])
  | i + 1, x, hx => by
    cases hc : cs[i]? with
    | none =>
      rw [List.getElem?_eq_none_iff] at hc
      have ih := lay_pl_le h cs i
      rw [List.take_of_length_le (l := cs) (i := i + 1) (by omega)] at hx ⊢
      rw [List.take_of_length_le (l := cs) (i := i) (by omega)] at ih
      exact ih x hx
    | some c =>
      have ih := lay_pl_le h cs i
      rw [lay_take hc] at hx ⊢
      show x ≤ List.length (_ ++ _)
      rw [List.length_append]
      rcases List.mem_append.1 (show x ∈ (layL h (cs.take i)).places ++ [_] from hx) with hx | hx
      · have := ih x hx; omega
      rw [List.mem_singleton.1 hx]; omega
theorem chs_len (us : List Txt) (hb : ∀ t ∈ us, t.length ≤ 20000) : (chsOf us).length ≤ us.length := by
  have hg := grd_all hb
  have : ∀ i, i ≤ (chsOf us).length → i ≤ cnt ((chsOf us).take i) := fun i => by
    induction i with
    | zero => intro _; exact Nat.zero_le _
    | succ i ih =>
      intro hi
      have hc : (chsOf us)[i]? = some (chsOf us)[i] := List.getElem?_eq_getElem hi
      rw [cnt_take hc]
      have := (hg.ok i _ hc).pos
      have := ih (by omega); omega
  have h := this _ (Nat.le_refl _)
  rw [List.take_length, cnt_all] at h
  exact h
/-- the texts of a chunk -/
theorem chunk_texts {us : List Txt} {i : Nat} {c : List Txt} (hc : (chsOf us)[i]? = some c) : (us.drop (cnt ((chsOf us).take i))).take c.length = c := by
  have h : us = ((chsOf us).take i).flatten ++ (c ++ ((chsOf us).drop (i + 1)).flatten) := by
    obtain ⟨hi, rfl⟩ := List.getElem?_eq_some_iff.1 hc
    conv => lhs; rw [← flat_all us, ← List.take_append_drop i (chsOf us), List.flatten_append, List.drop_eq_getElem_cons hi, List.flatten_cons]
  have key : ∀ A R : List Txt, us = A ++ (c ++ R) → (us.drop A.length).take c.length = c := fun A R e => by rw [e, List.drop_left, List.take_left]
  rw [cnt_flat]
  exact key _ _ h
theorem cnt_le {us : List Txt} {i : Nat} : cnt ((chsOf us).take i) ≤ us.length := by
  have := cnt_mono (cs := chsOf us) (i := i)
  rwa [cnt_all] at this
theorem footB_len9 (n : Nat) (pl : List Nat) (ah : Txt) : (footB n pl ah).length ≤ 9 * pl.length + 100 := by
  have h1 := natsB_len pl
  have h2 := (szN_le 3).2
  have h3 := (szN_le n).2
  have h4 := (szN_le pl.length).2
  have h5 := (szN_le 32).2
  have h6 := shaL_len ah
  unfold footB
  simp only [List.length_append, szN_len]
  omega
/-- the places of a file's parts -/
def posW (s : Stp) (us : List Txt) : List Nat := [0] ++ (layT s us).places ++ [(layT s us).file.length]
set_option maxRecDepth 8000 in
set_option maxHeartbeats 1000000 in
theorem head_r {W w : World} {F : List Seg} (H : St W w F) (s : Stp) (hso : StpOk s) (hc : chkS s = 0) {a : Option Addr} {c : Nat} (hr : RdIn W F a (intsV s.cls)) :
    Ok Tryz.prog 42 [.agg (s.cells a c).toArray].toArray w (fun r w' => ∃ a' c', r = .slice a' (headB s).length c' ∧ St W w' (row 5 1 a' (headB s).length c' ((headB s).map B) :: F)) := by
  obtain ⟨hcf, hcl, hcn⟩ := chk_inv hc
  unfold cfgOk at hcf
  have hz := fun v => formL_len v
  have hsz := fun i => numsB_len (s.cls.take i)
  have hhv : (numsB (hv s)).length ≤ 63 := by have := numsB_len (hv s); have : (hv s).length = 7 := rfl; omega
  refine enter (n := 48) (rs := #[.tmp 2]) Tryz.func42 rfl rfl rfl rfl ?_
  refine w_seq ?_
  refine w_region ?_
  refine b_box (cs := s.cells a c) rfl rfl rfl H (fun b1 w H => ?_)
  refine l_pslice rfl rfl ?_
  refine l_nil ?_
  refine w_seq ?_
  refine w_region ?_
  refine b_call rfl cb_34 rfl (rputZ_ok (x := 1) (bs := []) (St.newRow (T := 5) (sz := 1) H) ⟨by decide, by decide⟩ (by simp)) (fun v w hv => ?_)
  obtain ⟨a5, c5, rfl, H⟩ := hv
  refine b_call rfl cb_34 rfl (rputZ_ok (x := 1) H ⟨by omega, by omega⟩ (by have h1 := formL_len 1; have h2 := formL_len s.f.toNat; have h3 := formL_len s.room.toNat; have h4 := formL_len s.pat.toNat; have h5 := formL_len 0; simp only [List.length_append, List.nil_append, List.length_nil, show Int.toNat 1 = 1 from rfl, show Int.toNat 0 = 0 from rfl]; omega)) (fun v w hv => ?_)
  obtain ⟨a6, c6, rfl, H⟩ := hv
  refine l_pslice rfl rfl ?_
  refine l_nil ?_
  refine w_seq ?_
  refine w_drawX [12] [3, 7, 11] 1 [(0, 0), (1, 0), (2, 0), (3, 1), (5, 0), (6, 0), (7, 1), (9, 0), (10, 0), (11, 1), (4, 2), (8, 2), (12, 2), (13, 0)] mixed (by kernel_rfl) (fun _ _ _ h => fin_panic h) H (fun H => ?_)
  refine r_pslice rfl rfl rfl ?_
  refine r_w rfl rfl (fun w => q_fieldAddr rfl fo26_0 rfl) ?_
  refine r_w rfl rfl (fun w => q_fieldAddr rfl fo23_0 rfl) ?_
  refine r_v rfl rfl (fun w hS => q_load1 rfl c1_3 rfl (hS.cell 0 rfl rfl)) ?_
  refine r_w rfl rfl (fun w => q_fieldAddr rfl fo26_0 rfl) ?_
  refine r_w rfl rfl (fun w => q_fieldAddr rfl fo23_1 rfl) ?_
  refine r_v rfl rfl (fun w hS => q_load1 rfl c1_3 rfl (hS.cell 0 rfl rfl)) ?_
  refine r_w rfl rfl (fun w => q_fieldAddr rfl fo26_0 rfl) ?_
  refine r_w rfl rfl (fun w => q_fieldAddr rfl fo23_2 rfl) ?_
  refine r_v rfl rfl (fun w hS => q_load1 rfl c1_3 rfl (hS.cell 0 rfl rfl)) ?_
  refine r_do rfl ?_
  refine b_call rfl cb_34 rfl (rputZ_ok (x := s.f) H ⟨by omega, by omega⟩ (by have h1 := formL_len 1; have h2 := formL_len s.f.toNat; have h3 := formL_len s.room.toNat; have h4 := formL_len s.pat.toNat; have h5 := formL_len 0; simp only [List.length_append, List.nil_append, List.length_nil, show Int.toNat 1 = 1 from rfl, show Int.toNat 0 = 0 from rfl]; omega)) (fun v w hv => ?_)
  obtain ⟨a11, c11, rfl, H⟩ := hv
  refine l_nil ⟨fun _ _ => Sx.tl H 1 rfl, ?_⟩
  refine r_do rfl ?_
  refine b_call rfl cb_34 rfl (rputZ_ok (x := s.room) H ⟨by omega, by omega⟩ (by have h1 := formL_len 1; have h2 := formL_len s.f.toNat; have h3 := formL_len s.room.toNat; have h4 := formL_len s.pat.toNat; have h5 := formL_len 0; simp only [List.length_append, List.nil_append, List.length_nil, show Int.toNat 1 = 1 from rfl, show Int.toNat 0 = 0 from rfl]; omega)) (fun v w hv => ?_)
  obtain ⟨a15, c15, rfl, H⟩ := hv
  refine l_nil ⟨fun _ _ => Sx.tl H 1 rfl, ?_⟩
  refine r_do rfl ?_
  refine b_call rfl cb_34 rfl (rputZ_ok (x := s.pat) H ⟨by omega, by omega⟩ (by have h1 := formL_len 1; have h2 := formL_len s.f.toNat; have h3 := formL_len s.room.toNat; have h4 := formL_len s.pat.toNat; have h5 := formL_len 0; simp only [List.length_append, List.nil_append, List.length_nil, show Int.toNat 1 = 1 from rfl, show Int.toNat 0 = 0 from rfl]; omega)) (fun v w hv => ?_)
  obtain ⟨a19, c19, rfl, H⟩ := hv
  refine l_nil ⟨(fun h => nomatch h), ?_⟩
  refine r_pslice rfl rfl rfl ?_
  refine r_nil ?_
  refine w_cutG (G := Option Addr × Nat) [3, 20, 21, 22, 23, 24, 25, 26] (fun ⟨xa, xc⟩ => [(3, .slice xa (formL (Int.toNat 1) ++ formL (Int.toNat 1) ++ formL s.f.toNat ++ formL s.room.toNat ++ formL s.pat.toNat ++ formL (plainN s).toNat).length xc)]) (fun ⟨xa, xc⟩ w => St W w (row 5 1 xa (formL (Int.toNat 1) ++ formL (Int.toNat 1) ++ formL s.f.toNat ++ formL s.room.toNat ++ formL s.pat.toNat ++ formL (plainN s).toNat).length xc ((formL (Int.toNat 1) ++ formL (Int.toNat 1) ++ formL s.f.toNat ++ formL s.room.toNat ++ formL s.pat.toNat ++ formL (plainN s).toNat).map B) :: blk b1 (s.cells a c) 26 :: F)) (fun _ => rfl) ?_ ?_
  · refine w_seq ?_
    refine w_region ?_
    refine l_v rfl (q_fieldAddr rfl fo26_0 rfl) ?_
    refine l_v rfl (q_fieldAddr rfl fo23_3 rfl) ?_
    refine l_v rfl (q_load1 rfl c1_4 rfl (H.cell 1 rfl rfl)) ?_
    refine l_nil ?_
    refine w_cond rfl (fun c1 => ?_) (fun c1 => ?_)
    · try simp only [sH] at c1
      refine w_region ?_
      refine l_pslice rfl rfl ?_
      refine b_call rfl cb_34 rfl (rputZ_ok (x := 1) H ⟨by omega, by omega⟩ (by have h1 := formL_len 1; have h2 := formL_len s.f.toNat; have h3 := formL_len s.room.toNat; have h4 := formL_len s.pat.toNat; have h5 := formL_len 0; simp only [List.length_append, List.nil_append, List.length_nil, show Int.toNat 1 = 1 from rfl, show Int.toNat 0 = 0 from rfl]; omega)) (fun v w hv => ?_)
      obtain ⟨a24, c24, rfl, H⟩ := hv
      refine l_pslice rfl rfl ?_
      refine l_nil ?_
      refine ⟨by repeat' first | exact aM | exact aR | refine aI rfl ?_ | refine aU rfl ?_ | refine aL rfl ?_, ?_⟩
      have e : plainN s = 1 := by unfold plainN; rw [if_pos c1]
      rw [List.nil_append] at H
      exact ⟨(a24, c24), ⟨by rw [e, List.nil_append]; rfl, trivial⟩, by rw [e]; exact H⟩
    try simp only [sH] at c1
    refine w_region ?_
    refine l_pslice rfl rfl ?_
    refine b_call rfl cb_34 rfl (rputZ_ok (x := 0) H ⟨by omega, by omega⟩ (by have h1 := formL_len 1; have h2 := formL_len s.f.toNat; have h3 := formL_len s.room.toNat; have h4 := formL_len s.pat.toNat; have h5 := formL_len 0; simp only [List.length_append, List.nil_append, List.length_nil, show Int.toNat 1 = 1 from rfl, show Int.toNat 0 = 0 from rfl]; omega)) (fun v w hv => ?_)
    obtain ⟨a26, c26, rfl, H⟩ := hv
    refine l_pslice rfl rfl ?_
    refine l_nil ?_
    refine ⟨by repeat' first | exact aM | exact aR | refine aI rfl ?_ | refine aU rfl ?_ | refine aL rfl ?_, ?_⟩
    have e : plainN s = 0 := by unfold plainN; rw [if_neg (by rw [c1]; decide)]
    rw [List.nil_append] at H
    exact ⟨(a26, c26), ⟨by rw [e, List.nil_append]; rfl, trivial⟩, by rw [e]; exact H⟩
  rintro ⟨xa, xc⟩ ρ1 w H
  have hhd : formL (Int.toNat 1) ++ formL (Int.toNat 1) ++ formL s.f.toNat ++ formL s.room.toNat ++ formL s.pat.toNat ++ formL (plainN s).toNat ++ formL s.cls.length = numsB (hv s) := by
    unfold numsB hv
    simp only [List.flatMap_cons, List.flatMap_nil, List.append_nil, Int.toNat_natCast, List.append_assoc]
  refine w_seq ?_
  refine w_region ?_
  refine l_pslice rfl rfl ?_
  refine l_v rfl (q_fieldAddr rfl fo26_1 rfl) ?_
  refine l_v rfl (q_load1 rfl c1_24 rfl (H.cell 1 rfl rfl)) ?_
  refine l_v rfl (q_lenSlice rfl el_24 rfl) ?_
  refine b_call rfl cb_34 rfl (rput_ok (n := s.cls.length) H (by omega) (by have h1 := formL_len 1; have h2 := formL_len s.f.toNat; have h3 := formL_len s.room.toNat; have h4 := formL_len s.pat.toNat; have h5 := formL_len (plainN s).toNat; simp only [List.length_append, List.nil_append, List.length_nil, show Int.toNat 1 = 1 from rfl]; omega)) (fun v w hv => ?_)
  obtain ⟨a31, c31, rfl, H⟩ := hv
  rw [hhd] at H ⊢
  refine l_pslice rfl rfl ?_
  refine l_nil ?_
  refine w_seq ?_
  refine w_seq ?_
  refine w_region ?_
  refine l_pint rfl rfl ?_
  refine l_nil ?_
  refine w_block ?_
  refine w_loopG (G := Nat × Option Addr × Nat) [3, 4, 32, 33, 34, 35, 36, 37, 38, 39, 40, 41, 42, 43, 44, 45, 46] (fun ⟨i, xa, xc⟩ => [(3, .slice xa (numsB (hv s) ++ numsB (s.cls.take i)).length xc), (4, I (i : Int))]) (fun m ⟨i, xa, xc⟩ w => m + i = s.cls.length ∧ St W w (row 5 1 xa (numsB (hv s) ++ numsB (s.cls.take i)).length xc ((numsB (hv s) ++ numsB (s.cls.take i)).map B) :: blk b1 (s.cells a c) 26 :: F)) (fun _ => rfl) ?_ ?_
  · refine ⟨s.cls.length, (0, a31, c31), ⟨?_, rfl, trivial⟩, rfl, ?_⟩
    · rw [List.take_zero, show numsB [] = [] from rfl, List.append_nil]; rfl
    rw [List.take_zero, show numsB [] = [] from rfl, List.append_nil]; exact H
  rintro m ⟨i, xa, xc⟩ ρ1 w ⟨hmi, H⟩
  refine w_seq ?_
  refine w_seq ?_
  refine w_region ?_
  refine l_pint rfl rfl ?_
  refine l_v rfl (q_fieldAddr rfl fo26_1 rfl) ?_
  refine l_v rfl (q_load1 rfl c1_24 rfl (H.cell 1 rfl rfl)) ?_
  refine l_v rfl (q_lenSlice rfl el_24 rfl) ?_
  refine l_pbool rfl rfl ?_
  refine l_nil ?_
  refine w_cond rfl (fun c2 => ?_) (fun c2 => ?_)
  · try simp only [sH] at c2
    have hi : i < s.cls.length := by omega
    obtain ⟨pb, po, hpa, hpc⟩ := int_at (hr.use H 2 rfl) hi
    refine w_skip ?_
    refine w_seq ?_
    refine w_block ?_
    refine w_region ?_
    refine l_pslice rfl rfl ?_
    refine l_v rfl (q_fieldAddr rfl fo26_1 rfl) ?_
    refine l_v rfl (q_load1 rfl c1_24 rfl (H.cell 1 rfl rfl)) ?_
    refine l_pint rfl rfl ?_
    refine l_v rfl (q_indexSliceE i rfl el_24 rfl hpa rfl rfl hi) ?_
    refine l_v rfl (q_fieldAddr rfl fo36_0 rfl) ?_
    refine l_v rfl (q_load1 rfl c1_3 rfl hpc) ?_
    refine b_call rfl cb_34 rfl (rputZ_ok (x := s.cls[i]) H ⟨any_no hcn hi, hso _ (List.getElem_mem hi)⟩ (by have := hsz i; rw [List.length_take] at this; simp only [List.length_append]; omega)) (fun v w hv => ?_)
    obtain ⟨a46, c46, rfl, H⟩ := hv
    refine l_pslice rfl rfl ?_
    refine l_nil ?_
    refine w_region ?_
    refine l_pint rfl rfl ?_
    first | refine l_v rfl (q_add rfl rfl rfl (by simp only [inK]; omega)) ?_ | refine l_pint rfl rfl ?_
    refine l_pint rfl rfl ?_
    refine l_nil ?_
    refine ⟨by repeat' first | exact aM | exact aR | refine aI rfl ?_ | refine aU rfl ?_ | refine aL rfl ?_, ?_⟩
    have hct : numsB (hv s) ++ numsB (s.cls.take (i + 1)) = numsB (hv s) ++ numsB (s.cls.take i) ++ formL s.cls[i].toNat := by rw [numsB_take hi, ← List.append_assoc]
    refine ⟨m - 1, (i + 1, a46, c46), by omega, ⟨by show _ = Value.slice a46 (numsB (hv s) ++ numsB (s.cls.take (i + 1))).length c46; rw [hct]; rfl, by exact congrArg (Value.int IntKind.i64) (Int.natCast_succ i).symm, trivial⟩, by omega, ?_⟩
    rw [hct]
    exact H
  try simp only [sH] at c2
  obtain rfl : i = s.cls.length := by omega
  refine w_exit ?_
  refine w_seq ?_
  refine w_region ?_
  refine l_pslice rfl rfl ?_
  refine l_pslice rfl rfl ?_
  refine l_nil ?_
  refine w_ret ?_
  refine fin1 (v := .slice _ _ _) rfl ?_
  have e : numsB (hv s) ++ numsB (s.cls.take s.cls.length) = headB s := by unfold headB; rw [List.take_length]
  rw [e] at H ⊢
  exact ⟨xa, xc, rfl, H.erase 1⟩
set_option maxRecDepth 8000 in
set_option maxHeartbeats 1000000 in
theorem Write_r {W w : World} {F : List Seg} (H : St W w F) (s : Stp) (hso : StpOk s) (hc : chkS s = 0) {a : Option Addr} {c : Nat} (hr : RdIn W F a (intsV s.cls)) {k : Nat} {ta : Option Addr} {tc : Nat} {ts : List Tx} (hre : RdIn W F ta (ts.map Tx.v)) (hk : ts.length = k) (hkc : ts.length ≤ tc) (htx : TxsOk W F ts) (htl : ∀ t ∈ (ts.map Tx.bs), t.length ≤ 20000) (hts : ts.length ≤ 100000) :
    Ok Tryz.prog 14 [.agg (s.cells a c).toArray, .slice ta k tc].toArray w (fun r w' => ∃ fa fc pa pc, r = .tuple #[.slice fa (fileL s (ts.map Tx.bs)).length fc, .slice pa (posW s (ts.map Tx.bs)).length pc] ∧ St W w' (row 5 1 fa (fileL s (ts.map Tx.bs)).length fc ((fileL s (ts.map Tx.bs)).map B) :: row 3 1 pa (posW s (ts.map Tx.bs)).length pc (natsV (posW s (ts.map Tx.bs))) :: F)) := by
  subst hk
  have hcl := chs_len (ts.map Tx.bs) htl
  rw [List.length_map] at hcl
  have hll := lay_len (headF s) (chsOf (ts.map Tx.bs))
  have hhf : (headF s).length ≤ 32768 := seal_le _
  refine enter (n := 87) (rs := #[.tmp 4, .tmp 5]) Tryz.func14 rfl rfl rfl rfl ?_
  refine w_seq ?_
  refine w_region ?_
  refine b_box (cs := s.cells a c) rfl rfl rfl H (fun b2 w H => ?_)
  refine l_pslice rfl rfl ?_
  refine l_pslice rfl rfl ?_
  refine l_nil ?_
  refine w_seq ?_
  refine w_region ?_
  refine l_v rfl (q_loadN (vs := s.cells a c) rfl ag_26 rfl rfl (H.cells 0 rfl)) ?_
  refine b_call rfl cb_42 rfl (head_r H s hso hc (hr.up 1 rfl)) (fun v w hv => ?_)
  obtain ⟨ha, hcc, rfl, H⟩ := hv
  refine b_call rfl cb_41 rfl (seal_r H (RdIn.row 0 rfl) rfl (by have := headB_len hc; omega)) (fun v w hv => ?_)
  obtain ⟨fa, fc, rfl, H⟩ := hv
  have H := H.erase 1
  refine l_pslice rfl rfl ?_
  refine l_nil ?_
  refine w_seq ?_
  refine w_region ?_
  refine b_buildSlice (cs := [I 0]) rfl el_58 ze_3 rfl rfl rfl H (fun b17 w H => ?_)
  have H : St W w (row 3 1 (some ⟨b17, 0, none⟩) 1 1 [I 0] :: _) := row_blk0 rfl (by decide) H
  refine l_pslice rfl rfl ?_
  refine l_nil ?_
  refine w_seq ?_
  refine w_region ?_
  refine l_pslice rfl rfl ?_
  refine l_nil ?_
  refine w_seq ?_
  refine w_region ?_
  refine l_pslice rfl rfl ?_
  refine b_call rfl cb_43 rfl (Chunks_r H (hre.up 3 rfl) rfl hkc (htx.up 3 rfl) (by omega)) (fun v w hv => ?_)
  obtain ⟨la, lc, rfl, H⟩ := hv
  refine l_pslice rfl rfl ?_
  refine l_nil ?_
  refine w_seq ?_
  refine w_region ?_
  refine l_pint rfl rfl ?_
  refine l_nil ?_
  refine w_cutG (G := Option Addr × Nat × Option Addr × Nat × Option Addr × Nat) [6, 7, 8, 10, 11, 20, 21, 22, 23, 24, 25, 26, 27, 28, 29, 30, 31, 32, 33, 34, 35, 36, 37, 38, 39, 40, 41, 42, 43, 44, 45, 46, 47, 48, 49, 50, 51, 52, 53, 54, 55] (fun ⟨fa, fc, pa, pc, qa, qc⟩ => [(6, .slice fa (layT s (ts.map Tx.bs)).file.length fc), (7, .slice pa ([0] ++ (layT s (ts.map Tx.bs)).places).length pc), (8, .slice qa (layT s (ts.map Tx.bs)).places.length qc)]) (fun ⟨fa, fc, pa, pc, qa, qc⟩ w => St W w (row 5 1 fa (layT s (ts.map Tx.bs)).file.length fc ((layT s (ts.map Tx.bs)).file.map B) :: row 3 1 pa (([0] ++ (layT s (ts.map Tx.bs)).places)).length pc (natsV ([0] ++ (layT s (ts.map Tx.bs)).places)) :: row 3 1 qa (layT s (ts.map Tx.bs)).places.length qc (natsV (layT s (ts.map Tx.bs)).places) :: row 3 1 la (chsOf (ts.map Tx.bs)).length lc (natsV ((chsOf (ts.map Tx.bs)).map List.length)) :: blk b2 (s.cells a c) 26 :: F)) (fun _ => rfl) ?_ ?_
  · refine w_seq ?_
    refine w_region ?_
    refine l_pint rfl rfl ?_
    refine l_nil ?_
    refine w_block ?_
    refine w_loopG (G := Nat × Option Addr × Nat × Option Addr × Nat × Option Addr × Nat) [6, 7, 8, 10, 11, 20, 21, 22, 23, 24, 25, 26, 27, 28, 29, 30, 31, 32, 33, 34, 35, 36, 37, 38, 39, 40, 41, 42, 43, 44, 45, 46, 47, 48, 49, 50, 51, 52, 53, 54, 55] (fun ⟨i, fa, fc, pa, pc, qa, qc⟩ => [(6, .slice fa (layL (headF s) ((chsOf (ts.map Tx.bs)).take i)).file.length fc), (7, .slice pa ([0] ++ (layL (headF s) ((chsOf (ts.map Tx.bs)).take i)).places).length pc), (8, .slice qa (layL (headF s) ((chsOf (ts.map Tx.bs)).take i)).places.length qc), (10, I (cnt ((chsOf (ts.map Tx.bs)).take i) : Int)), (11, I (i : Int))]) (fun m ⟨i, fa, fc, pa, pc, qa, qc⟩ w => m + i = (chsOf (ts.map Tx.bs)).length ∧ St W w (row 5 1 fa (layL (headF s) ((chsOf (ts.map Tx.bs)).take i)).file.length fc ((layL (headF s) ((chsOf (ts.map Tx.bs)).take i)).file.map B) :: row 3 1 pa (([0] ++ (layL (headF s) ((chsOf (ts.map Tx.bs)).take i)).places)).length pc (natsV ([0] ++ (layL (headF s) ((chsOf (ts.map Tx.bs)).take i)).places)) :: row 3 1 qa (layL (headF s) ((chsOf (ts.map Tx.bs)).take i)).places.length qc (natsV (layL (headF s) ((chsOf (ts.map Tx.bs)).take i)).places) :: row 3 1 la (chsOf (ts.map Tx.bs)).length lc (natsV ((chsOf (ts.map Tx.bs)).map List.length)) :: blk b2 (s.cells a c) 26 :: F)) (fun _ => rfl) ?_ ?_
    · exact ⟨(chsOf (ts.map Tx.bs)).length, (0, fa, fc, some ⟨b17, 0, none⟩, 1, none, 0), ⟨rfl, rfl, rfl, rfl, rfl, trivial⟩, rfl, St.pick [3, 2, 0, 1, 4] (pre := [_, _, _, _, _]) rfl (St.newRow (T := 3) (sz := 1) H) rfl⟩
    rintro m ⟨i, fa, fc, pa, pc, qa, qc⟩ ρ1 w ⟨hmi, H⟩
    refine w_seq ?_
    refine w_seq ?_
    refine w_region ?_
    refine l_pint rfl rfl ?_
    refine l_pslice rfl rfl ?_
    refine l_v rfl (q_lenSlice rfl el_58 rfl) ?_
    refine l_pbool rfl rfl ?_
    refine l_nil ?_
    refine w_cond rfl (fun c1 => ?_) (fun c1 => ?_)
    · try simp only [sH] at c1
      have hi : i < (chsOf (ts.map Tx.bs)).length := by omega
      have hi' : i < ((chsOf (ts.map Tx.bs)).map List.length).length := by rw [List.length_map]; exact hi
      obtain ⟨pb, po, hpa, _⟩ := nat_at ((H.rowInv (i := 3) rfl).2.2.2.2) hi'
      have hc' : (chsOf (ts.map Tx.bs))[i]? = some ((chsOf (ts.map Tx.bs))[i]'hi) := List.getElem?_eq_getElem hi
      have ok := (grd_all htl).ok i _ hc'
      have hok1 := ok.pos
      have hok2 := ok.cnt
      have hok3 := ok.size
      have hcc := cnt_take hc'
      have hcl2 := cnt_le (us := (ts.map Tx.bs)) (i := i + 1)
      rw [List.length_map] at hcl2
      have hct : ((ts.drop (cnt ((chsOf (ts.map Tx.bs)).take i))).take ((chsOf (ts.map Tx.bs))[i]'hi).length).map Tx.bs = ((chsOf (ts.map Tx.bs))[i]'hi) := by rw [map_sub]; exact chunk_texts hc'
      have hli := hll i
      refine w_skip ?_
      refine w_seq ?_
      refine w_block ?_
      refine w_seq ?_
      refine w_region ?_
      refine l_pslice rfl rfl ?_
      refine l_pslice rfl rfl ?_
      refine l_v rfl (q_lenSlice rfl el_50 rfl) ?_
      refine b_buildSlice (cs := [I ((layL (headF s) ((chsOf (ts.map Tx.bs)).take i)).file.length : Int)]) rfl el_58 ze_3 rfl rfl rfl H (fun b29 w H => ?_)
      refine b_append rfl el_58 ze_3 rfl rfl rfl H 3 rfl (Rd.mk (H.cells0 0 rfl)) rfl (fun u hu => by obtain rfl := List.mem_singleton.1 hu; rfl) ⟨by omega, by simp only [maxLen]; omega⟩ (fun a30 c30 w H => ?_)
      have H := H.drop1
      refine l_pslice rfl rfl ?_
      refine l_nil ?_
      refine w_seq ?_
      refine w_region ?_
      refine l_pslice rfl rfl ?_
      refine l_pslice rfl rfl ?_
      refine l_v rfl (q_lenSlice rfl el_50 rfl) ?_
      refine b_buildSlice (cs := [I ((layL (headF s) ((chsOf (ts.map Tx.bs)).take i)).file.length : Int)]) rfl el_58 ze_3 rfl rfl rfl H (fun b34 w H => ?_)
      refine b_append rfl el_58 ze_3 rfl rfl rfl H 2 rfl (Rd.mk (H.cells0 0 rfl)) rfl (fun u hu => by obtain rfl := List.mem_singleton.1 hu; rfl) ⟨by rw [List.length_append, List.length_singleton]; omega, by simp only [maxLen]; rw [List.length_append, List.length_singleton]; omega⟩ (fun a35 c35 w H => ?_)
      have H := H.drop1
      refine l_pslice rfl rfl ?_
      refine l_nil ?_
      refine w_seq ?_
      refine w_region ?_
      refine l_pslice rfl rfl ?_
      refine l_pint rfl rfl ?_
      refine l_pslice rfl rfl ?_
      refine l_pint rfl rfl ?_
      refine l_pint rfl rfl ?_
      refine l_pslice rfl rfl ?_
      refine l_pint rfl rfl ?_
      refine l_v rfl (q_indexSliceE i rfl el_58 rfl hpa rfl rfl hi) ?_
      refine l_v rfl (q_load1 (v := I (((chsOf (ts.map Tx.bs))[i]'hi).length : Int)) rfl c1_3 rfl (by have h := nat_c hpa ((H.rowInv (i := 3) rfl).2.2.2.2) hi'; rw [List.getElem_map] at h; exact h)) ?_
      first | refine l_v rfl (q_add rfl rfl rfl (by simp only [inK]; omega)) ?_ | refine l_pint rfl rfl ?_
      refine l_v rfl (q_slice (l := cnt ((chsOf (ts.map Tx.bs)).take i)) (h := cnt ((chsOf (ts.map Tx.bs)).take i) + ((chsOf (ts.map Tx.bs))[i]'hi).length) (m := tc) rfl el_37 rfl Bnd.none (by have h := @Bnd.mk .i64 ((cnt ((chsOf (ts.map Tx.bs)).take i) : Int) + (((chsOf (ts.map Tx.bs))[i]'hi).length : Int)) ts.length tc ⟨by omega, by omega⟩; rwa [show ((cnt ((chsOf (ts.map Tx.bs)).take i) : Int) + (((chsOf (ts.map Tx.bs))[i]'hi).length : Int)).toNat = cnt ((chsOf (ts.map Tx.bs)).take i) + ((chsOf (ts.map Tx.bs))[i]'hi).length by omega] at h) (Bnd.nat (by omega)) (by simp)) ?_
      refine b_call rfl cb_44 rfl (chunk_r (ts := (ts.drop (cnt ((chsOf (ts.map Tx.bs)).take i))).take (((chsOf (ts.map Tx.bs))[i]'hi).length)) H (txs_sub (hre.up 5 rfl) _ _ _ (fun e => by omega)) (by rw [List.length_take, List.length_drop]; omega) ((htx.up 5 rfl).sub (fun x hx => List.mem_of_mem_drop (List.mem_of_mem_take hx))) (by rw [List.length_take]; omega) (by omega)) (fun v w hv => ?_)
      obtain ⟨ka, kc, rfl, H⟩ := hv
      rw [hct] at H ⊢
      refine b_call rfl cb_41 rfl (seal_r H (RdIn.row 0 rfl) rfl (by omega)) (fun v w hv => ?_)
      obtain ⟨za, zc, rfl, H⟩ := hv
      have H := H.erase 1
      have hsl : (sealR (chunkB (cnt ((chsOf (ts.map Tx.bs)).take i)) ((chsOf (ts.map Tx.bs))[i]'hi))).1.length ≤ 32768 := seal_le _
      refine b_append rfl el_50 ze_5 rfl rfl rfl H 1 rfl (ys := (sealR (chunkB (cnt ((chsOf (ts.map Tx.bs)).take i)) ((chsOf (ts.map Tx.bs))[i]'hi))).1.map B) ((H.rowInv (i := 0) rfl).2.2.2.2) (by simp) (EW.oneB _) ⟨by omega, by simp only [maxLen]; omega⟩ (fun a49 c49 w H => ?_)
      have H := H.drop1
      refine l_pslice rfl rfl ?_
      refine l_nil ?_
      refine w_region ?_
      refine l_pint rfl rfl ?_
      refine l_pslice rfl rfl ?_
      refine l_pint rfl rfl ?_
      refine l_v rfl (q_indexSliceE i rfl el_58 rfl hpa rfl rfl hi) ?_
      refine l_v rfl (q_load1 (v := I (((chsOf (ts.map Tx.bs))[i]'hi).length : Int)) rfl c1_3 rfl (by have h := nat_c hpa ((H.rowInv (i := 3) rfl).2.2.2.2) hi'; rw [List.getElem_map] at h; exact h)) ?_
      first | refine l_v rfl (q_add rfl rfl rfl (by simp only [inK]; omega)) ?_ | refine l_pint rfl rfl ?_
      refine l_pint rfl rfl ?_
      refine l_nil ?_
      refine w_region ?_
      refine l_pint rfl rfl ?_
      first | refine l_v rfl (q_add rfl rfl rfl (by simp only [inK]; omega)) ?_ | refine l_pint rfl rfl ?_
      refine l_pint rfl rfl ?_
      refine l_nil ?_
      refine ⟨by repeat' first | exact aM | exact aR | refine aI rfl ?_ | refine aU rfl ?_ | refine aL rfl ?_, ?_⟩
      have hF : (layL (headF s) ((chsOf (ts.map Tx.bs)).take (i + 1))).file = (layL (headF s) ((chsOf (ts.map Tx.bs)).take i)).file ++ (sealR (chunkB (cnt ((chsOf (ts.map Tx.bs)).take i)) ((chsOf (ts.map Tx.bs))[i]'hi))).1 := by rw [lay_take hc']; show _ ++ frameC _ _ = _; rw [lay_n]; rfl
      have hP : (layL (headF s) ((chsOf (ts.map Tx.bs)).take (i + 1))).places = (layL (headF s) ((chsOf (ts.map Tx.bs)).take i)).places ++ [(layL (headF s) ((chsOf (ts.map Tx.bs)).take i)).file.length] := by rw [lay_take hc']; rfl
      have hC : cnt ((chsOf (ts.map Tx.bs)).take (i + 1)) = cnt ((chsOf (ts.map Tx.bs)).take i) + ((chsOf (ts.map Tx.bs))[i]'hi).length := cnt_take hc'
      have hlF : (layL (headF s) ((chsOf (ts.map Tx.bs)).take (i + 1))).file.length = (layL (headF s) ((chsOf (ts.map Tx.bs)).take i)).file.length + (sealR (chunkB (cnt ((chsOf (ts.map Tx.bs)).take i)) ((chsOf (ts.map Tx.bs))[i]'hi))).1.length := by rw [hF, List.length_append]
      have hlP : ([0] ++ (layL (headF s) ((chsOf (ts.map Tx.bs)).take (i + 1))).places).length = ([0] ++ (layL (headF s) ((chsOf (ts.map Tx.bs)).take i)).places).length + 1 := by rw [hP, ← List.append_assoc]; exact List.length_append
      have hlQ : (layL (headF s) ((chsOf (ts.map Tx.bs)).take (i + 1))).places.length = (layL (headF s) ((chsOf (ts.map Tx.bs)).take i)).places.length + 1 := by rw [hP]; exact List.length_append
      refine ⟨m - 1, (i + 1, a49, c49, a35, c35, a30, c30), by omega, ⟨by show _ = Value.slice a49 (layL (headF s) ((chsOf (ts.map Tx.bs)).take (i + 1))).file.length c49; rw [hlF]; rfl, by show _ = Value.slice a35 ([0] ++ (layL (headF s) ((chsOf (ts.map Tx.bs)).take (i + 1))).places).length c35; rw [hlP]; rfl, by show _ = Value.slice a30 (layL (headF s) ((chsOf (ts.map Tx.bs)).take (i + 1))).places.length c30; rw [hlQ]; rfl, congrArg (Value.int IntKind.i64) (by rw [hC]; omega), by exact congrArg (Value.int IntKind.i64) (Int.natCast_succ i).symm, trivial⟩, by omega, ?_⟩
      rw [hlF, hlP, hlQ, hF, hP, ← List.append_assoc, List.map_append (f := B)]
      unfold natsV at H ⊢
      rw [List.map_append (l₁ := [0] ++ _), List.map_append (l₁ := (layL (headF s) ((chsOf (ts.map Tx.bs)).take i)).places)]
      exact H
    try simp only [sH] at c1
    refine w_exit ?_
    refine ⟨by repeat' first | exact aM | exact aR | refine aI rfl ?_ | refine aU rfl ?_ | refine aL rfl ?_, ?_⟩
    have hz : (layL (headF s) ((chsOf (ts.map Tx.bs)).take i)) = (layT s (ts.map Tx.bs)) := by rw [List.take_of_length_le (by omega)]; rfl
    exact ⟨(fa, fc, pa, pc, qa, qc), ⟨by show _ = Value.slice fa (layT s (ts.map Tx.bs)).file.length fc; rw [← hz]; rfl, by show _ = Value.slice pa ([0] ++ (layT s (ts.map Tx.bs)).places).length pc; rw [← hz]; rfl, by show _ = Value.slice qa (layT s (ts.map Tx.bs)).places.length qc; rw [← hz]; rfl, trivial⟩, by rw [← hz]; exact H⟩
  rintro ⟨fa, fc, pa, pc, qa, qc⟩ ρ1 w H
  have hli := hll (chsOf (ts.map Tx.bs)).length
  have hpx := lay_pl_le (headF s) (chsOf (ts.map Tx.bs)) (chsOf (ts.map Tx.bs)).length
  rw [List.take_length] at hli hpx
  rw [show layL (headF s) (chsOf (ts.map Tx.bs)) = (layT s (ts.map Tx.bs)) from rfl] at hli hpx
  refine w_seq ?_
  refine w_region ?_
  refine l_pslice rfl rfl ?_
  refine l_v rfl (q_lenSlice rfl el_37 rfl) ?_
  refine l_pslice rfl rfl ?_
  refine l_pslice rfl rfl ?_
  refine b_call rfl cb_45 rfl (foot_r (n := ts.length) H (RdIn.row 2 rfl) rfl (RdIn.row 0 rfl) rfl (by omega) (by omega) (by omega) (fun x hx => by have := hpx x hx; omega)) (fun v w hv => ?_)
  obtain ⟨oa, oc, rfl, H⟩ := hv
  refine b_call rfl cb_41 rfl (seal_r H (RdIn.row 0 rfl) rfl (by have := footB_len9 ts.length (layT s (ts.map Tx.bs)).places (layT s (ts.map Tx.bs)).file; omega)) (fun v w hv => ?_)
  obtain ⟨za, zc, rfl, H⟩ := hv
  have H : St W w (row 5 1 za (footC ts.length (layT s (ts.map Tx.bs)).places (layT s (ts.map Tx.bs)).file).length zc ((footC ts.length (layT s (ts.map Tx.bs)).places (layT s (ts.map Tx.bs)).file).map B) :: _) := H.erase 1
  have hsl : (footC ts.length (layT s (ts.map Tx.bs)).places (layT s (ts.map Tx.bs)).file).length ≤ 32768 := seal_le _
  rw [show (sealR (footB ts.length (layT s (ts.map Tx.bs)).places (layT s (ts.map Tx.bs)).file)).1 = (footC ts.length (layT s (ts.map Tx.bs)).places (layT s (ts.map Tx.bs)).file) from rfl]
  refine l_pslice rfl rfl ?_
  refine l_nil ?_
  refine w_seq ?_
  refine w_region ?_
  refine l_pslice rfl rfl ?_
  refine l_pslice rfl rfl ?_
  refine l_v rfl (q_lenSlice rfl el_50 rfl) ?_
  refine b_buildSlice (cs := [I ((layT s (ts.map Tx.bs)).file.length : Int)]) rfl el_58 ze_3 rfl rfl rfl H (fun b65 w H => ?_)
  refine b_append rfl el_58 ze_3 rfl rfl rfl H 3 rfl (Rd.mk (H.cells0 0 rfl)) rfl (fun u hu => by obtain rfl := List.mem_singleton.1 hu; rfl) ⟨by rw [List.length_append, List.length_singleton]; omega, by simp only [maxLen]; rw [List.length_append, List.length_singleton]; omega⟩ (fun a66 c66 w H => ?_)
  have H := H.drop1
  refine l_pslice rfl rfl ?_
  refine l_nil ?_
  refine w_seq ?_
  refine w_region ?_
  refine l_pslice rfl rfl ?_
  refine l_pslice rfl rfl ?_
  refine b_append rfl el_50 ze_5 rfl rfl rfl H 1 rfl (ys := (footC ts.length (layT s (ts.map Tx.bs)).places (layT s (ts.map Tx.bs)).file).map B) ((H.rowInv (i := 0) rfl).2.2.2.2) (by simp) (EW.oneB _) ⟨by omega, by simp only [maxLen]; omega⟩ (fun a69 c69 w H => ?_)
  refine l_pslice rfl rfl ?_
  refine l_nil ?_
  refine w_seq ?_
  refine w_region ?_
  refine l_pslice rfl rfl ?_
  refine l_v rfl (q_lenSlice rfl el_50 rfl) ?_
  refine l_pint rfl rfl ?_
  refine l_nil ?_
  refine w_seq ?_
  refine w_region ?_
  refine l_pslice rfl rfl ?_
  refine l_pint rfl rfl ?_
  refine l_v rfl (q_pure (i64_shrK (n := (footC ts.length (layT s (ts.map Tx.bs)).places (layT s (ts.map Tx.bs)).file).length) (i := 24) rfl rfl (by decide))) ?_
  refine l_v rfl (q_lowN (M := (footC ts.length (layT s (ts.map Tx.bs)).places (layT s (ts.map Tx.bs)).file).length / 2 ^ 24) rfl (by kernel_rfl) in_5 rfl) ?_
  refine l_pint rfl rfl ?_
  refine l_v rfl (q_pure (i64_shrK (n := (footC ts.length (layT s (ts.map Tx.bs)).places (layT s (ts.map Tx.bs)).file).length) (i := 16) rfl rfl (by decide))) ?_
  refine l_v rfl (q_lowN (M := (footC ts.length (layT s (ts.map Tx.bs)).places (layT s (ts.map Tx.bs)).file).length / 2 ^ 16) rfl (by kernel_rfl) in_5 rfl) ?_
  refine l_pint rfl rfl ?_
  refine l_v rfl (q_pure (i64_shrK (n := (footC ts.length (layT s (ts.map Tx.bs)).places (layT s (ts.map Tx.bs)).file).length) (i := 8) rfl rfl (by decide))) ?_
  refine l_v rfl (q_lowN (M := (footC ts.length (layT s (ts.map Tx.bs)).places (layT s (ts.map Tx.bs)).file).length / 2 ^ 8) rfl (by kernel_rfl) in_5 rfl) ?_
  refine l_pint rfl rfl ?_
  refine l_v rfl (q_lowN (M := (footC ts.length (layT s (ts.map Tx.bs)).places (layT s (ts.map Tx.bs)).file).length) rfl (by kernel_rfl) in_5 rfl) ?_
  refine b_buildSlice (cs := (be4 (footC ts.length (layT s (ts.map Tx.bs)).places (layT s (ts.map Tx.bs)).file).length).map B) rfl el_50 ze_5 rfl rfl rfl H (fun b84 w H => ?_)
  refine b_append rfl el_50 ze_5 rfl rfl rfl H 2 rfl (ys := (be4 (footC ts.length (layT s (ts.map Tx.bs)).places (layT s (ts.map Tx.bs)).file).length).map B) (Rd.mk (H.cells0 0 rfl)) rfl (EW.oneB _) ⟨by omega, by simp only [maxLen]; omega⟩ (fun a85 c85 w H => ?_)
  refine l_pslice rfl rfl ?_
  refine l_pslice rfl rfl ?_
  refine l_pslice rfl rfl ?_
  refine l_nil ?_
  refine w_ret ?_
  refine fin2 rfl rfl ?_
  have e1 : (layT s (ts.map Tx.bs)).file ++ (footC ts.length (layT s (ts.map Tx.bs)).places (layT s (ts.map Tx.bs)).file) ++ be4 (footC ts.length (layT s (ts.map Tx.bs)).places (layT s (ts.map Tx.bs)).file).length = fileL s (ts.map Tx.bs) := by unfold fileL; rw [List.length_map]
  have e2 : (layT s (ts.map Tx.bs)).file.length + (footC ts.length (layT s (ts.map Tx.bs)).places (layT s (ts.map Tx.bs)).file).length + 4 = (fileL s (ts.map Tx.bs)).length := by rw [← e1, List.length_append, List.length_append]; rfl
  have e3 : ([0] ++ (layT s (ts.map Tx.bs)).places).length + 1 = (posW s (ts.map Tx.bs)).length := by unfold posW; rw [List.length_append (bs := [_])]; rfl
  refine ⟨a85, c85, a66, c66, ?_, ?_⟩
  · have hv : Value.tuple #[Value.slice a85 ((layT s (ts.map Tx.bs)).file.length + (footC ts.length (layT s (ts.map Tx.bs)).places (layT s (ts.map Tx.bs)).file).length + 4) c85, Value.slice a66 (([0] ++ (layT s (ts.map Tx.bs)).places).length + 1) c66] = Value.tuple #[Value.slice a85 (fileL s (ts.map Tx.bs)).length c85, Value.slice a66 (posW s (ts.map Tx.bs)).length c66] := by rw [← e2, ← e3]
    exact hv
  rw [← e2, ← e3, ← e1]
  have H := St.pick [2, 3] (pre := [_, _, _, _, _, _, _]) rfl H rfl
  unfold natsV posW at *
  rw [List.map_append, List.map_append, List.map_append (l₁ := [0] ++ _)]
  exact H
end Go.Proofs.YtfpmnhmdphaceaaGreatDoor
