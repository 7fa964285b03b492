/- A part of this claim: laws of the tape's functions and of plain lists; no conditions beyond those that the theorems name. -/
import Derived.Test.YtfpmnhmdphaceaaGreatDoorZap40
import Derived.Test.YtfpmnhmdphaceaaGreatDoorZap11
namespace Go.Proofs.YtfpmnhmdphaceaaGreatDoor
open Go.EW
attribute [local irreducible] EW.W EW.L EW.fin block8 outB shaL
set_option linter.unusedVariables false
set_option linter.unusedSimpArgs false
attribute [local irreducible] crcN crcB crcL sealL openR sealR
theorem TxsOk.up {W : World} {F S : List Seg} {l : List Tx} (h : TxsOk W F l) (k : Nat) (hk : S.drop k = F) : TxsOk W S l := fun x hx => ⟨(h x hx).1.up k hk, (h x hx).2⟩
theorem cat_take {ts : List Tx} {i : Nat} (hi : i < ts.length) : catL ((ts.take (i + 1)).map Tx.bs) = catL ((ts.take i).map Tx.bs) ++ formL ts[i].bs.length ++ ts[i].bs := by
  rw [List.take_succ_eq_append_getElem hi, List.map_append]
  exact cat_snoc _ _
theorem size_take {ts : List Tx} (h : ∀ t ∈ ts, t.bs.length ≤ 100000) (i : Nat) : (catL ((ts.take i).map Tx.bs)).length ≤ ts.length * 100009 := by
  rw [cat_len]
  have h1 := sizeT_le ((ts.take i).map Tx.bs) 100000 (fun t ht => by
    obtain ⟨x, hx, rfl⟩ := List.mem_map.1 ht
    exact h x (List.mem_of_mem_take hx))
  rw [List.length_map, List.length_take] at h1
  have h2 : min i ts.length * (9 + 100000) ≤ ts.length * (9 + 100000) := Nat.mul_le_mul_right _ (Nat.min_le_right _ _)
  exact Nat.le_trans h1 h2
set_option maxHeartbeats 1000000 in
theorem chunk_r {W w : World} {F : List Seg} (H : St W w F) {f k : Nat} {ta : Option Addr} {tc : Nat} {ts : List Tx} (hr : RdIn W F ta (ts.map Tx.v)) (hk : ts.length = k) (htx : TxsOk W F ts) (hts : ts.length ≤ 64) (hf : f ≤ 9223372036854775807) :
    Ok Tryz.prog 44 [I (f : Int), .slice ta k tc].toArray w (fun r w' => ∃ a' c', r = .slice a' (chunkB f (ts.map Tx.bs)).length c' ∧ St W w' (row 5 1 a' (chunkB f (ts.map Tx.bs)).length c' ((chunkB f (ts.map Tx.bs)).map B) :: F)) := by
  subst hk
  have hz2 := formL_len 2
  have hzf := formL_len f
  have hzk := formL_len ts.length
  have hsz := fun i => size_take (fun t ht => (htx t ht).2) i
  refine enter (n := 33) (rs := #[.tmp 4]) Tryz.func44 rfl rfl rfl rfl ?_
  refine w_seq ?_
  refine w_region ?_
  refine l_pslice rfl rfl ?_
  refine l_nil ?_
  refine w_seq ?_
  refine w_region ?_
  refine b_call rfl cb_34 rfl (rput_ok (n := 2) (bs := []) (St.newRow (T := 5) (sz := 1) H) (by decide) (by decide)) (fun v w hv => ?_)
  obtain ⟨a1, c1, rfl, H⟩ := hv
  refine l_pint rfl rfl ?_
  refine b_call rfl cb_34 rfl (rput_ok (n := f) H (by omega) (by rw [List.nil_append]; omega)) (fun v w hv => ?_)
  obtain ⟨a2, c2, rfl, H⟩ := hv
  refine l_pslice rfl rfl ?_
  refine l_v rfl (q_lenSlice rfl el_37 rfl) ?_
  refine b_call rfl cb_34 rfl (rput_ok (n := ts.length) H (by omega) (by simp only [List.length_append, List.nil_append]; omega)) (fun v w hv => ?_)
  obtain ⟨a3, c3, rfl, H⟩ := hv
  rw [List.nil_append] at H ⊢
  refine l_pslice rfl rfl ?_
  refine l_nil ?_
  refine w_seq ?_
  refine w_seq ?_
  refine w_region ?_
  refine l_pint rfl rfl ?_
  refine l_nil ?_
  refine w_block ?_
  refine w_loopG (G := Nat × Option Addr × Nat) [5, 6, 13, 14, 15, 16, 17, 18, 19, 20, 21, 22, 23, 24, 25, 26, 27, 28, 29, 30, 31] (fun ⟨i, xa, xc⟩ => [(5, .slice xa (formL 2 ++ formL f ++ formL ts.length ++ catL ((ts.take i).map Tx.bs)).length xc), (6, I ((i : Nat) : Int))]) (fun m ⟨i, xa, xc⟩ w => m + i = ts.length ∧ St W w (row 5 1 xa (formL 2 ++ formL f ++ formL ts.length ++ catL ((ts.take i).map Tx.bs)).length xc ((formL 2 ++ formL f ++ formL ts.length ++ catL ((ts.take i).map Tx.bs)).map B) :: F)) (fun _ => rfl) ?_ ?_
  · refine ⟨ts.length, (0, a3, c3), ⟨?_, rfl, trivial⟩, rfl, ?_⟩
    · rw [List.take_zero, List.map_nil, show catL [] = [] from rfl, List.append_nil]; rfl
    rw [List.take_zero, List.map_nil, show catL [] = [] from rfl, List.append_nil]; exact H
  rintro m ⟨i, xa, xc⟩ ρ1 w ⟨hmi, H⟩
  refine w_seq ?_
  refine w_seq ?_
  refine w_region ?_
  refine l_pint rfl rfl ?_
  refine l_pslice rfl rfl ?_
  refine l_v rfl (q_lenSlice rfl el_37 rfl) ?_
  refine l_pbool rfl rfl ?_
  refine l_nil ?_
  refine w_cond rfl (fun c1 => ?_) (fun c1 => ?_)
  · try simp only [sH] at c1
    have hi : i < ts.length := by omega
    have hib := (htx _ (List.getElem_mem hi)).2
    obtain ⟨tb, to_, hta, _⟩ := rd_cell (hr.use H 1 rfl) (txv_get hi)
    refine w_skip ?_
    refine w_seq ?_
    refine w_block ?_
    refine w_seq ?_
    refine w_region ?_
    refine l_pslice rfl rfl ?_
    refine l_pslice rfl rfl ?_
    refine l_pint rfl rfl ?_
    refine l_v rfl (q_indexSliceE i rfl el_37 rfl hta rfl rfl hi) ?_
    refine l_v rfl (q_load1 (v := .slice ts[i].a ts[i].bs.length ts[i].c) rfl c1_50 rfl (rd_at hta (hr.use H 1 rfl) (txv_get hi))) ?_
    refine l_v rfl (q_lenSlice rfl el_50 rfl) ?_
    refine b_call rfl cb_34 rfl (rput_ok (n := ts[i].bs.length) H (by omega) (by have := hsz i; simp only [List.length_append]; omega)) (fun v w hv => ?_)
    obtain ⟨a25, c25, rfl, H⟩ := hv
    refine l_pslice rfl rfl ?_
    refine l_nil ?_
    refine w_region ?_
    refine l_pslice rfl rfl ?_
    refine l_pslice rfl rfl ?_
    refine l_pint rfl rfl ?_
    refine l_v rfl (q_indexSliceE i rfl el_37 rfl hta rfl rfl hi) ?_
    refine l_v rfl (q_load1 (v := .slice ts[i].a ts[i].bs.length ts[i].c) rfl c1_50 rfl (rd_at hta (hr.use H 1 rfl) (txv_get hi))) ?_
    refine b_append rfl el_50 ze_5 rfl rfl rfl H 0 rfl (ys := ts[i].bs.map B) ((htx _ (List.getElem_mem hi)).1.use H 1 rfl) (by simp) (EW.oneB _) ⟨by have := hsz i; have := formL_len ts[i].bs.length; simp only [List.length_append]; omega, by have := hsz i; have := formL_len ts[i].bs.length; simp only [maxLen, List.length_append]; omega⟩ (fun a31 c31 w H => ?_)
    refine l_pslice rfl rfl ?_
    refine l_nil ?_
    refine w_region ?_
    refine l_pint rfl rfl ?_
    first | refine l_v rfl (q_add rfl rfl rfl (by simp only [inK]; omega)) ?_ | refine l_pint rfl rfl ?_
    refine l_pint rfl rfl ?_
    refine l_nil ?_
    refine ⟨by repeat' first | exact aM | exact aR | refine aI rfl ?_ | refine aU rfl ?_ | refine aL rfl ?_, ?_⟩
    have hct : formL 2 ++ formL f ++ formL ts.length ++ catL ((ts.take (i + 1)).map Tx.bs) = formL 2 ++ formL f ++ formL ts.length ++ catL ((ts.take i).map Tx.bs) ++ formL ts[i].bs.length ++ ts[i].bs := by rw [cat_take hi]; simp only [List.append_assoc]
    have hcl : (formL 2 ++ formL f ++ formL ts.length ++ catL ((ts.take (i + 1)).map Tx.bs)).length = (formL 2 ++ formL f ++ formL ts.length ++ catL ((ts.take i).map Tx.bs) ++ formL ts[i].bs.length).length + ts[i].bs.length := by rw [hct]; exact List.length_append
    refine ⟨m - 1, (i + 1, a31, c31), by omega, ⟨by show _ = Value.slice a31 (formL 2 ++ formL f ++ formL ts.length ++ catL ((ts.take (i + 1)).map Tx.bs)).length c31; rw [hcl]; rfl, by exact congrArg (Value.int IntKind.i64) (Int.natCast_succ i).symm, trivial⟩, by omega, ?_⟩
    rw [hcl, hct, List.map_append (l₂ := ts[i].bs)]
    exact H
  try simp only [sH] at c1
  obtain rfl : i = ts.length := by omega
  refine w_exit ?_
  refine w_seq ?_
  refine w_region ?_
  refine l_pslice rfl rfl ?_
  refine l_pslice rfl rfl ?_
  refine l_nil ?_
  refine w_ret ?_
  refine fin1 (v := .slice _ _ _) rfl ?_
  refine ⟨xa, xc, ?_, ?_⟩
  · unfold chunkB; rw [List.take_length, List.length_map]
  unfold chunkB; rw [List.take_length] at H; rw [List.length_map]; exact H
end Go.Proofs.YtfpmnhmdphaceaaGreatDoor
