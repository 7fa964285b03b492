/- The reference's Index and Seek do what the plain functions say, of any bytes in memory and any two numbers. -/
import Derived.Test.YtfpmnhmdphaceaaDoorTap42
namespace Go.Proofs.YtfpmnhmdphaceaaDoor
open Go.EW
attribute [local irreducible] EW.W EW.L EW.fin block8 outB shaL
set_option linter.unusedVariables false
set_option linter.unusedSimpArgs false
attribute [local irreducible] crcN crcB crcL sealL openR sealR indexR
theorem Index_r {W w : World} {F : List Seg} (H : St W w F) {a : Option Addr} {n c : Nat} {bs : List UInt8} (hr : RdIn W F a (bs.map B)) (hl : bs.length = n) (hcp : bs.length ≤ c) (hn : n ≤ 140737488351232) :
    Ok Tryd.prog 33 [.slice a n c].toArray w (fun r w' => ∃ a' c', r = .tuple #[.slice a' (indexR bs).2.1.length c', I ((indexR bs).2.2 : Int)] ∧ St W w' (row 3 1 a' (indexR bs).2.1.length c' (natsV (indexR bs).2.1) :: F)) := by
  refine enter (n := 17) (rs := #[.tmp 2, .tmp 3]) Tryd.func33 rfl rfl rfl rfl ?_
  refine w_seq ?_
  refine w_region ?_
  refine l_pslice rfl rfl ?_
  refine l_pint rfl rfl ?_
  refine l_nil ?_
  refine w_seq ?_
  refine w_region ?_
  refine l_pslice rfl rfl ?_
  refine b_call rfl cb_80 rfl (index_r H hr hl hcp hn) (fun v w hv => ?_)
  obtain ⟨x, a', c', rfl, H⟩ := hv
  refine l_ptup rfl rfl ?_
  refine l_pint rfl rfl ?_
  refine l_pslice rfl rfl ?_
  refine l_pint rfl rfl ?_
  refine l_pint rfl rfl ?_
  refine l_pint rfl rfl ?_
  refine l_pslice rfl rfl ?_
  refine l_pint rfl rfl ?_
  refine l_pint rfl rfl ?_
  refine l_nil ?_
  refine w_seq ?_
  refine w_region ?_
  refine l_pslice rfl rfl ?_
  refine l_pint rfl rfl ?_
  refine l_pslice rfl rfl ?_
  refine l_pint rfl rfl ?_
  refine l_nil ?_
  refine w_ret ?_
  refine fin2 rfl rfl ?_
  exact ⟨a', c', rfl, H⟩
/-- what is wanted of a list -/
def outL (d cn : Nat) (hv : List Evt) : List Evt := (hv.drop d).take cn
theorem outL_len (d cn : Nat) (hv : List Evt) : (outL d cn hv).length = min cn (hv.length - d) := by unfold outL; rw [List.length_take, List.length_drop]
theorem outL_skip {d cn : Nat} {hv : List Evt} {e : Evt} (h : hv.length < d) : outL d cn (hv ++ [e]) = outL d cn hv := by
  unfold outL
  rw [List.drop_eq_nil_of_le (by rw [List.length_append]; simp; omega), List.drop_eq_nil_of_le (by omega)]
theorem outL_put {d cn : Nat} {hv : List Evt} {e : Evt} (h : d ≤ hv.length) (hc : (outL d cn hv).length < cn) : outL d cn (hv ++ [e]) = outL d cn hv ++ [e] := by
  rw [outL_len] at hc
  unfold outL
  rw [List.drop_append_of_le_length h, List.take_append, List.take_of_length_le (l := List.drop d hv) (by rw [List.length_drop]; omega)]
  rw [List.take_of_length_le (l := [e]) (by rw [List.length_drop]; simp; omega)]
theorem outL_full {d cn : Nat} {hv r : List Evt} (h : d + cn ≤ hv.length) : outL d cn (hv ++ r) = outL d cn hv := by
  unfold outL
  rw [List.drop_append_of_le_length (by omega), List.take_append_of_le_length (by rw [List.length_drop]; omega)]
theorem kn_refl (k : IntKind) : (kn k).beq (kn k) = true := by cases k <;> rfl
theorem q_addW {P : Program} {w : World} {e : Operand → Value} {o : Oper} {x y : Operand} {T T' : TypeId} {k : IntKind} {a b : Int} (ho : o.op = .binOp .add T x y T') (hx : e x = .int k a) (hy : e y = .int k b) : (execOp e o).run P w = .ok (.value (.int k (k.wrap (a + b)))) w := by
  refine q_pure ?_
  simp only [ho, pureV, hx, hy, binV, isShift, cond_false, intV, kn_refl, cond_true]
theorem evx_len (txs : List Tx) : ((txs.map Tx.bs).map fun t => (getEv t).1).length = txs.length := by rw [List.length_map, List.length_map]
theorem evx_take {txs : List Tx} {i : Nat} (hi : i < txs.length) : ((txs.map Tx.bs).map fun t => (getEv t).1).take (i + 1) = ((txs.map Tx.bs).map fun t => (getEv t).1).take i ++ [(getEv txs[i].bs).1] := by
  rw [List.take_succ_eq_append_getElem (by rw [evx_len]; exact hi)]
  simp
theorem hv_len {hv : List Evt} {txs : List Tx} {i : Nat} (hi : i ≤ txs.length) : (hv ++ ((txs.map Tx.bs).map fun t => (getEv t).1).take i).length = hv.length + i := by
  rw [List.length_append, List.length_take, evx_len, Nat.min_eq_left hi]
theorem outL_nil (d cn : Nat) : outL d cn [] = [] := by unfold outL; rw [List.drop_nil, List.take_nil]
set_option maxRecDepth 8000 in
set_option maxHeartbeats 1000000 in
theorem Seek_r {W w : World} {F : List Seg} (H : St W w F) {a : Option Addr} {n c : Nat} {bs : List UInt8} {fr cn : Int} (hr : RdIn W F a (bs.map B)) (hl : bs.length = n) (hcp : bs.length ≤ c) (hn : n ≤ 140737488351232) (hfr : -9223372036854775808 ≤ fr ∧ fr ≤ 9223372036854775807) (hcn : -9223372036854775808 ≤ cn ∧ cn ≤ 9223372036854775807) :
    Ok Tryd.prog 35 [.slice a n c, I fr, I cn].toArray w (fun r w' => ∃ ea ec, ∃ es : List EvM, es.map EvM.e = (seekR bs fr cn).1 ∧ r = .tuple #[.slice ea es.length ec, I ((seekR bs fr cn).2 : Int)] ∧ St W w' (row 30 13 ea es.length ec (evsV es) :: Segs (es.map EvM.seg) :: F)) := by
  subst hl
  refine enter (n := 157) (rs := #[.tmp 6, .tmp 7]) Tryd.func35 rfl rfl rfl rfl ?_
  refine w_seq ?_
  refine w_region ?_
  refine l_pslice rfl rfl ?_
  refine l_pint rfl rfl ?_
  refine l_nil ?_
  refine w_seq ?_
  refine w_region ?_
  refine l_pslice rfl rfl ?_
  refine b_call rfl cb_80 rfl (index_r H hr rfl hcp hn) (fun v w hv => ?_)
  obtain ⟨x28, xa, xc, rfl, H⟩ := hv
  refine l_ptup rfl rfl ?_
  refine l_pint rfl rfl ?_
  refine l_pslice rfl rfl ?_
  refine l_pint rfl rfl ?_
  refine l_pint rfl rfl ?_
  refine l_pint rfl rfl ?_
  refine l_pslice rfl rfl ?_
  refine l_pint rfl rfl ?_
  refine l_pint rfl rfl ?_
  refine l_nil ?_
  refine w_seq ?_
  refine w_seq ?_
  refine w_region ?_
  refine l_pint rfl rfl ?_
  refine l_pbool rfl rfl ?_
  refine l_nil ?_
  refine w_cond rfl (fun c1 => ?_) (fun c1 => ?_)
  · try simp only [sH] at c1
    refine w_seq ?_
    refine w_region ?_
    refine l_pint rfl rfl ?_
    refine l_pslice rfl rfl ?_
    refine l_pint rfl rfl ?_
    refine l_nil ?_
    refine w_ret ?_
    refine fin2 rfl rfl ?_
    rw [seek_err (bs := bs) (by omega)]
    exact ⟨none, 0, [], rfl, rfl, St.pick [1, 0] (pre := [_, _]) rfl (St.nilseg.2 (St.newRow (T := 30) (sz := 13) (H.drop1))) rfl⟩
  try simp only [sH] at c1
  have hix := index_inv (bs := bs) (by omega)
  have hmx : maxI = 9223372036854775807 := rfl
  refine w_skip ?_
  refine w_seq ?_
  refine w_seq ?_
  refine w_region ?_
  refine l_pint rfl rfl ?_
  refine l_pbool rfl rfl ?_
  refine l_pbool rfl rfl ?_
  refine l_split 38 rfl (fun h38 => ?_) (fun h38 => ?_)
  · try simp only [sH] at h38
    refine l_no rfl ?_
    refine l_no rfl ?_
    refine l_pickT (v := .bool _) rfl rfl rfl ?_
    refine l_pbool rfl rfl ?_
    refine l_no rfl ?_
    refine l_no rfl ?_
    refine l_no rfl ?_
    refine l_pickT (v := .bool _) rfl rfl rfl ?_
    refine l_pbool rfl rfl ?_
    refine l_no rfl ?_
    refine l_no rfl ?_
    refine l_no rfl ?_
    refine l_no rfl ?_
    refine l_no rfl ?_
    refine l_pickT (v := .bool _) rfl rfl rfl ?_
    refine l_nil ?_
    refine w_cond_t rfl ?_
    refine w_seq ?_
    refine w_region ?_
    refine l_pslice rfl rfl ?_
    refine l_pint rfl rfl ?_
    refine l_nil ?_
    refine w_ret ?_
    refine fin2 rfl rfl ?_
    rw [seek_arg (bs := bs) (by omega) (by omega)]
    exact ⟨none, 0, [], rfl, rfl, St.pick [1, 0] (pre := [_, _]) rfl (St.nilseg.2 (St.newRow (T := 30) (sz := 13) (H.drop1))) rfl⟩
  try simp only [sH] at h38
  refine l_pint rfl rfl ?_
  refine l_pbool rfl rfl ?_
  refine l_pickF (v := .bool _) rfl rfl rfl ?_
  refine l_pbool rfl rfl ?_
  refine l_split 42 rfl (fun h42 => ?_) (fun h42 => ?_)
  · try simp only [sH] at h42
    refine l_no rfl ?_
    refine l_no rfl ?_
    refine l_no rfl ?_
    refine l_pickT (v := .bool _) rfl rfl rfl ?_
    refine l_pbool rfl rfl ?_
    refine l_no rfl ?_
    refine l_no rfl ?_
    refine l_no rfl ?_
    refine l_no rfl ?_
    refine l_no rfl ?_
    refine l_pickT (v := .bool _) rfl rfl rfl ?_
    refine l_nil ?_
    refine w_cond_t rfl ?_
    refine w_seq ?_
    refine w_region ?_
    refine l_pslice rfl rfl ?_
    refine l_pint rfl rfl ?_
    refine l_nil ?_
    refine w_ret ?_
    refine fin2 rfl rfl ?_
    rw [seek_arg (bs := bs) (by omega) (by omega)]
    exact ⟨none, 0, [], rfl, rfl, St.pick [1, 0] (pre := [_, _]) rfl (St.nilseg.2 (St.newRow (T := 30) (sz := 13) (H.drop1))) rfl⟩
  try simp only [sH] at h42
  refine l_pint rfl rfl ?_
  refine l_pint rfl rfl ?_
  refine l_pbool rfl rfl ?_
  refine l_pickF (v := .bool _) rfl rfl rfl ?_
  refine l_pbool rfl rfl ?_
  refine l_split 47 rfl (fun h47 => ?_) (fun h47 => ?_)
  · try simp only [sH] at h47
    refine l_no rfl ?_
    refine l_no rfl ?_
    refine l_no rfl ?_
    refine l_no rfl ?_
    refine l_no rfl ?_
    refine l_pickT (v := .bool _) rfl rfl rfl ?_
    refine l_nil ?_
    refine w_cond_t rfl ?_
    refine w_seq ?_
    refine w_region ?_
    refine l_pslice rfl rfl ?_
    refine l_pint rfl rfl ?_
    refine l_nil ?_
    refine w_ret ?_
    refine fin2 rfl rfl ?_
    rw [seek_arg (bs := bs) (by omega) (by omega)]
    exact ⟨none, 0, [], rfl, rfl, St.pick [1, 0] (pre := [_, _]) rfl (St.nilseg.2 (St.newRow (T := 30) (sz := 13) (H.drop1))) rfl⟩
  try simp only [sH] at h47
  refine l_pint rfl rfl ?_
  refine l_pint rfl rfl ?_
  refine l_pint rfl rfl ?_
  first | refine l_v rfl (q_sub rfl rfl rfl (by simp only [inK]; omega)) ?_ | refine l_pint rfl rfl ?_
  refine l_pbool rfl rfl ?_
  refine l_pickF (v := .bool _) rfl rfl rfl ?_
  refine l_nil ?_
  refine w_cond rfl (fun c2 => ?_) (fun c2 => ?_)
  · try simp only [sH] at c2
    refine w_seq ?_
    refine w_region ?_
    refine l_pslice rfl rfl ?_
    refine l_pint rfl rfl ?_
    refine l_nil ?_
    refine w_ret ?_
    refine fin2 rfl rfl ?_
    rw [seek_arg (bs := bs) (by omega) (by omega)]
    exact ⟨none, 0, [], rfl, rfl, St.pick [1, 0] (pre := [_, _]) rfl (St.nilseg.2 (St.newRow (T := 30) (sz := 13) (H.drop1))) rfl⟩
  try simp only [sH] at c2
  obtain ⟨fr, rfl⟩ := Int.eq_ofNat_of_zero_le (show 0 ≤ fr by omega)
  obtain ⟨cn, rfl⟩ := Int.eq_ofNat_of_zero_le (show 0 ≤ cn by omega)
  refine w_skip ?_
  refine w_seq ?_
  refine w_seq ?_
  refine w_region ?_
  refine l_pint rfl rfl ?_
  refine l_pbool rfl rfl ?_
  refine l_nil ?_
  refine w_cond rfl (fun c3 => ?_) (fun c3 => ?_)
  · try simp only [sH] at c3
    refine w_seq ?_
    refine w_region ?_
    refine l_pslice rfl rfl ?_
    refine l_pint rfl rfl ?_
    refine l_nil ?_
    refine w_ret ?_
    refine fin2 rfl rfl ?_
    rw [seek_zero (bs := bs) (by omega) (by omega) (by omega)]
    exact ⟨none, 0, [], rfl, rfl, St.pick [1, 0] (pre := [_, _]) rfl (St.nilseg.2 (St.newRow (T := 30) (sz := 13) (H.drop1))) rfl⟩
  try simp only [sH] at c3
  have hcn0 : cn ≠ 0 := by omega
  refine w_skip ?_
  refine w_seq ?_
  refine w_region ?_
  refine l_pslice rfl rfl ?_
  refine l_v rfl (q_lenSlice rfl el_66 rfl) ?_
  first | refine l_v rfl (q_sub rfl rfl rfl (by simp only [inK]; omega)) ?_ | refine l_pint rfl rfl ?_
  refine l_pint rfl rfl ?_
  refine l_nil ?_
  refine w_cutG (G := Nat × Nat × List Evt) [6, 7, 12, 13, 14, 15, 59, 60, 61, 62, 63, 64, 65, 66, 67, 68, 69, 70, 71, 72, 73, 74, 75, 76, 77] (fun ⟨j, fs, evs⟩ => [(12, I ((j : Int) - 1))]) (fun ⟨j, fs, evs⟩ w => ((j = 0 ∧ downR bs (indexR bs).2.1 fr (indexR bs).2.1.length = none) ∨ (0 < j ∧ j ≤ (indexR bs).2.1.length ∧ downR bs (indexR bs).2.1 fr (indexR bs).2.1.length = some (j - 1, fs) ∧ fs ≤ fr ∧ chunkAtR bs ((indexR bs).2.1.getD (j - 1) 0) = some (fs, evs))) ∧ St W w (row 3 1 xa (indexR bs).2.1.length xc (natsV (indexR bs).2.1) :: F)) (fun _ => rfl) ?_ ?_
  · refine w_block ?_
    refine w_loopG (G := Nat) [6, 7, 12, 13, 14, 15, 59, 60, 61, 62, 63, 64, 65, 66, 67, 68, 69, 70, 71, 72, 73, 74, 75, 76, 77] (fun j => [(12, I ((j : Int) - 1))]) (fun m j w => m = j ∧ j ≤ (indexR bs).2.1.length ∧ downR bs (indexR bs).2.1 fr j = downR bs (indexR bs).2.1 fr (indexR bs).2.1.length ∧ St W w (row 3 1 xa (indexR bs).2.1.length xc (natsV (indexR bs).2.1) :: F)) (fun _ => rfl) ?_ ?_
    · exact ⟨(indexR bs).2.1.length, (indexR bs).2.1.length, ⟨rfl, trivial⟩, rfl, Nat.le_refl _, rfl, H⟩
    rintro m j ρ1 w ⟨hmj, hjl, hdn, H⟩
    refine w_seq ?_
    refine w_seq ?_
    refine w_region ?_
    refine l_pint rfl rfl ?_
    refine l_pbool rfl rfl ?_
    refine l_nil ?_
    refine w_cond rfl (fun c4 => ?_) (fun c4 => ?_)
    · try simp only [sH] at c4
      obtain ⟨j, rfl⟩ : ∃ q, j = q + 1 := ⟨j - 1, by omega⟩
      have hj : j < (indexR bs).2.1.length := by omega
      obtain ⟨pb, po, hpa, hpc⟩ := nat_at ((RdIn.row (W := W) 0 rfl).use H 0 rfl) hj
      have hgd : (indexR bs).2.1.getD (j) 0 = (indexR bs).2.1[j] := by simp [List.getD, hj]
      refine w_skip ?_
      refine w_block ?_
      refine w_seq ?_
      refine w_region ?_
      refine l_pslice rfl rfl ?_
      refine l_pslice rfl rfl ?_
      refine l_pint rfl rfl ?_
      refine l_v rfl (q_indexSliceE j rfl el_66 rfl hpa rfl (by omega) hj) ?_
      refine l_v rfl (q_load1 rfl c1_3 rfl hpc) ?_
      refine b_call rfl cb_83 rfl (chunkAt_r H (hr.up 1 rfl) rfl hcp (by omega) (by have := (hix.2.2.1 _ (List.getElem_mem hj)).2; omega)) (fun v w hv => ?_)
      obtain ⟨ok, x, ta, tc, txs, rfl, hok1, hok0, H⟩ := hv
      refine l_ptup rfl rfl ?_
      refine l_pint rfl rfl ?_
      refine l_pslice rfl rfl ?_
      refine l_pbool rfl rfl ?_
      refine l_pint rfl rfl ?_
      refine l_pslice rfl rfl ?_
      refine l_pbool rfl rfl ?_
      refine l_nil ?_
      refine w_seq ?_
      refine w_seq ?_
      refine w_region ?_
      refine l_pbool rfl rfl ?_
      refine l_pbool rfl rfl ?_
      refine l_nil ?_
      refine w_cond rfl (fun c5 => ?_) (fun c5 => ?_)
      · try simp only [sH] at c5
        refine w_seq ?_
        refine w_region ?_
        refine l_pslice rfl rfl ?_
        refine l_pint rfl rfl ?_
        refine l_nil ?_
        refine w_ret ?_
        refine fin2 rfl rfl ?_
        rw [seek_down (bs := bs) (fr := (fr : Int)) (cn := (cn : Int)) (by omega) (by omega) (by omega) (by rw [Int.toNat_natCast, ← hdn]; exact down_none (by rw [hgd]; exact hok0 (by simpa using c5)))]
        exact ⟨none, 0, [], rfl, rfl, St.pick [1, 0] (pre := [_, _]) rfl (St.nilseg.2 (St.newRow (T := 30) (sz := 13) (H.drop1.drop1.drop1))) rfl⟩
      try simp only [sH] at c5
      have hch := (hok1 (by simpa using c5)).1
      refine w_skip ?_
      refine w_seq ?_
      refine w_seq ?_
      refine w_region ?_
      refine l_pint rfl rfl ?_
      refine l_pint rfl rfl ?_
      refine l_pbool rfl rfl ?_
      refine l_nil ?_
      refine w_cond rfl (fun c6 => ?_) (fun c6 => ?_)
      · try simp only [sH] at c6
        refine w_exit ?_
        refine ⟨by repeat' first | exact aM | exact aR | refine aI rfl ?_ | refine aU rfl ?_ | refine aL rfl ?_, ?_⟩
        exact ⟨(j + 1, x, _), ⟨rfl, trivial⟩, .inr ⟨by omega, by omega, by rw [← hdn]; exact down_here (by rw [hgd]; exact hch) (by omega), by omega, by rw [Nat.add_sub_cancel, hgd]; exact hch⟩, H.drop1.drop1⟩
      try simp only [sH] at c6
      refine w_skip ?_
      refine w_region ?_
      refine l_pint rfl rfl ?_
      first | refine l_v rfl (q_sub rfl rfl rfl (by simp only [inK]; omega)) ?_ | refine l_pint rfl rfl ?_
      refine l_pint rfl rfl ?_
      refine l_nil ?_
      refine ⟨by repeat' first | exact aM | exact aR | refine aI rfl ?_ | refine aU rfl ?_ | refine aL rfl ?_, ?_⟩
      exact ⟨j, j, by omega, ⟨congrArg (Value.int IntKind.i64) (by omega), trivial⟩, rfl, by omega, by rw [← hdn, down_next (by rw [hgd]; exact hch) (by omega)], H.drop1.drop1⟩
    try simp only [sH] at c4
    refine w_exit ?_
    refine ⟨by repeat' first | exact aM | exact aR | refine aI rfl ?_ | refine aU rfl ?_ | refine aL rfl ?_, ?_⟩
    obtain rfl : j = 0 := by omega
    exact ⟨(0, 0, []), ⟨rfl, trivial⟩, .inl ⟨rfl, by rw [← hdn]; rfl⟩, H⟩
  rintro ⟨j, fs, evs⟩ ρ1 w ⟨hj, H⟩
  refine w_seq ?_
  refine w_seq ?_
  refine w_region ?_
  refine l_pint rfl rfl ?_
  refine l_pbool rfl rfl ?_
  refine l_nil ?_
  refine w_cond rfl (fun c7 => ?_) (fun c7 => ?_)
  · try simp only [sH] at c7
    refine w_seq ?_
    refine w_region ?_
    refine l_pslice rfl rfl ?_
    refine l_pint rfl rfl ?_
    refine l_nil ?_
    refine w_ret ?_
    refine fin2 rfl rfl ?_
    have hj0 : downR bs (indexR bs).2.1 fr (indexR bs).2.1.length = none := by
      rcases hj with h | h
      · exact h.2
      omega
    rw [seek_down (bs := bs) (fr := (fr : Int)) (cn := (cn : Int)) (by omega) (by omega) (by omega) hj0]
    exact ⟨none, 0, [], rfl, rfl, St.pick [1, 0] (pre := [_, _]) rfl (St.nilseg.2 (St.newRow (T := 30) (sz := 13) (H.drop1))) rfl⟩
  try simp only [sH] at c7
  obtain ⟨hj1, hjl, hdn, hff, hch⟩ : 0 < j ∧ j ≤ (indexR bs).2.1.length ∧ downR bs (indexR bs).2.1 fr (indexR bs).2.1.length = some (j - 1, fs) ∧ fs ≤ fr ∧ chunkAtR bs ((indexR bs).2.1.getD (j - 1) 0) = some (fs, evs) := by
    rcases hj with h | h
    · omega
    exact h
  have hci := chunkAt_inv hch
  have hj2 : j - 1 < (indexR bs).2.1.length := by omega
  obtain ⟨pb, po, hpa, hpc⟩ := nat_at ((RdIn.row (W := W) 0 rfl).use H 0 rfl) hj2
  have hgd2 : (indexR bs).2.1.getD (j - 1) 0 = (indexR bs).2.1[j - 1] := by simp [List.getD, hj2]
  refine w_skip ?_
  refine w_seq ?_
  refine w_region ?_
  refine l_pslice rfl rfl ?_
  refine l_nil ?_
  refine w_seq ?_
  refine w_region ?_
  refine l_pslice rfl rfl ?_
  refine l_pslice rfl rfl ?_
  refine l_pint rfl rfl ?_
  refine l_v rfl (q_indexSliceE (j - 1) rfl el_66 rfl hpa rfl (by omega) hj2) ?_
  refine l_v rfl (q_load1 rfl c1_3 rfl hpc) ?_
  refine b_call rfl cb_83 rfl (chunkAt_r H (hr.up 1 rfl) rfl hcp (by omega) (by have := (hix.2.2.1 _ (List.getElem_mem hj2)).2; omega)) (fun v w hv => ?_)
  obtain ⟨ok, x, ta, tc, txs, rfl, hok1, hok0, H⟩ := hv
  obtain rfl : ok = true := by
    cases ok with
    | true => rfl
    | false => have h := hok0 rfl; rw [← hgd2, hch] at h; cases h
  have hok := (hok1 rfl).1
  rw [← hgd2, hch] at hok
  obtain ⟨rfl, hevs⟩ : fs = x ∧ evs = _ := by simpa using hok
  have H := H.drop1.drop1
  refine l_ptup rfl rfl ?_
  refine l_pint rfl rfl ?_
  refine l_pslice rfl rfl ?_
  refine l_pbool rfl rfl ?_
  refine l_pint rfl rfl ?_
  refine l_pslice rfl rfl ?_
  refine l_pbool rfl rfl ?_
  refine l_nil ?_
  refine w_cutG (G := Nat × Int × Option Addr × Nat × List EvM × List Evt) [6, 7, 12, 16, 17, 20, 21, 22, 23, 24, 25, 90, 91, 92, 93, 94, 95, 96, 97, 98, 99, 100, 101, 102, 103, 104, 105, 106, 107, 108, 109, 110, 111, 112, 113, 114, 115, 116, 117, 118, 119, 120, 121, 122, 123, 124, 125, 126, 127, 128, 129, 130, 131, 132, 133, 134, 135, 136, 137, 138, 139, 140, 141, 142, 143, 144, 145, 146, 147, 148, 149, 150, 151] (fun ⟨k, nx, ea, ec, es, hv⟩ => [(16, .slice ea es.length ec)]) (fun ⟨k, nx, ea, ec, es, hv⟩ w => (k = (indexR bs).2.1.length ∨ (fr - fs) + cn ≤ hv.length) ∧ k ≤ (indexR bs).2.1.length ∧ es.map EvM.e = outL (fr - fs) cn hv ∧ (hv.length < (fr - fs) + cn → nx = ((fs + hv.length : Nat) : Int)) ∧ hv.length ≤ 32 * k ∧ upR bs (indexR bs).2.1 fs (fr + cn - fs) ((indexR bs).2.1.length - k) (k) (hv) = upR bs (indexR bs).2.1 fs (fr + cn - fs) ((indexR bs).2.1.length - (j - 1)) (j - 1) ([]) ∧ St W w (row 30 13 ea es.length ec (evsV es) :: Segs (es.map EvM.seg) :: row 3 1 xa (indexR bs).2.1.length xc (natsV (indexR bs).2.1) :: F)) (fun _ => rfl) ?_ ?_
  · refine w_block ?_
    refine w_loopG (G := Nat × Int × Option Addr × Nat × List EvM × List Evt) [6, 7, 12, 16, 17, 20, 21, 22, 23, 24, 25, 90, 91, 92, 93, 94, 95, 96, 97, 98, 99, 100, 101, 102, 103, 104, 105, 106, 107, 108, 109, 110, 111, 112, 113, 114, 115, 116, 117, 118, 119, 120, 121, 122, 123, 124, 125, 126, 127, 128, 129, 130, 131, 132, 133, 134, 135, 136, 137, 138, 139, 140, 141, 142, 143, 144, 145, 146, 147, 148, 149, 150, 151] (fun ⟨k, nx, ea, ec, es, hv⟩ => [(12, I (k : Int)), (16, .slice ea es.length ec), (17, I nx)]) (fun m ⟨k, nx, ea, ec, es, hv⟩ w => m + k = (indexR bs).2.1.length ∧ es.map EvM.e = outL (fr - fs) cn hv ∧ (hv.length < (fr - fs) + cn → nx = ((fs + hv.length : Nat) : Int)) ∧ hv.length ≤ 32 * k ∧ upR bs (indexR bs).2.1 fs (fr + cn - fs) (m) (k) (hv) = upR bs (indexR bs).2.1 fs (fr + cn - fs) ((indexR bs).2.1.length - (j - 1)) (j - 1) ([]) ∧ St W w (row 30 13 ea es.length ec (evsV es) :: Segs (es.map EvM.seg) :: row 3 1 xa (indexR bs).2.1.length xc (natsV (indexR bs).2.1) :: F)) (fun _ => rfl) ?_ ?_
    · exact ⟨(indexR bs).2.1.length - (j - 1), (j - 1, (fs : Int), none, 0, [], []), ⟨congrArg (Value.int IntKind.i64) (by omega), rfl, rfl, trivial⟩, by omega, (outL_nil _ _).symm, fun _ => by simp, Nat.zero_le _, rfl, St.pick [1, 0] (pre := [_, _]) rfl (St.nilseg.2 (St.newRow (T := 30) (sz := 13) H)) rfl⟩
    rintro m ⟨k, nx, ea, ec, es, hv⟩ ρ1 w ⟨hmk, hes, hnx, hhv, hup, H⟩
    have hel0 : es.length = min cn (hv.length - (fr - fs)) := by rw [← List.length_map (f := EvM.e), hes, outL_len]
    refine w_seq ?_
    refine w_seq ?_
    refine w_region ?_
    refine l_pint rfl rfl ?_
    refine l_pslice rfl rfl ?_
    refine l_v rfl (q_lenSlice rfl el_66 rfl) ?_
    refine l_pbool rfl rfl ?_
    refine l_pbool rfl rfl ?_
    refine l_split 94 rfl (fun h94 => ?_) (fun h94 => ?_)
    · try simp only [sH] at h94
      refine l_pslice rfl rfl ?_
      refine l_v rfl (q_lenSlice rfl el_57 rfl) ?_
      refine l_pint rfl rfl ?_
      refine l_pbool rfl rfl ?_
      refine l_pickT (v := .bool _) rfl rfl rfl ?_
      refine l_nil ?_
      refine w_cond rfl (fun c8 => ?_) (fun c8 => ?_)
      · try simp only [sH] at c8
        have hk : k < (indexR bs).2.1.length := by omega
        have hlt : hv.length < fr - fs + cn := by omega
        have hnx := hnx hlt
        obtain ⟨pb, po, hpa, hpc⟩ := nat_at ((RdIn.row (W := W) 2 rfl).use H 0 rfl) hk
        have hgdk : (indexR bs).2.1.getD (k) 0 = (indexR bs).2.1[k] := by simp [List.getD, hk]
        refine w_skip ?_
        refine w_block ?_
        refine w_seq ?_
        refine w_region ?_
        refine l_pslice rfl rfl ?_
        refine l_pslice rfl rfl ?_
        refine l_pint rfl rfl ?_
        refine l_v rfl (q_indexSliceE k rfl el_66 rfl hpa rfl (by omega) hk) ?_
        refine l_v rfl (q_load1 rfl c1_3 rfl hpc) ?_
        refine b_call rfl cb_83 rfl (chunkAt_r H (hr.up 3 rfl) rfl hcp (by omega) (by have := (hix.2.2.1 _ (List.getElem_mem hk)).2; omega)) (fun v w hv => ?_)
        obtain ⟨ok, x, ta, tc, txs, rfl, hok1, hok0, H⟩ := hv
        refine l_ptup rfl rfl ?_
        refine l_pint rfl rfl ?_
        refine l_pslice rfl rfl ?_
        refine l_pbool rfl rfl ?_
        refine l_pint rfl rfl ?_
        refine l_pslice rfl rfl ?_
        refine l_pbool rfl rfl ?_
        refine l_nil ?_
        refine w_seq ?_
        refine w_seq ?_
        refine w_region ?_
        refine l_pbool rfl rfl ?_
        refine l_pbool rfl rfl ?_
        refine l_pbool rfl rfl ?_
        refine l_split 112 rfl (fun h112 => ?_) (fun h112 => ?_)
        · try simp only [sH] at h112
          refine l_no rfl ?_
          refine l_no rfl ?_
          refine l_no rfl ?_
          refine l_pickT (v := .bool _) rfl rfl rfl ?_
          refine l_nil ?_
          refine w_cond_t rfl ?_
          refine w_seq ?_
          refine w_region ?_
          refine l_pslice rfl rfl ?_
          refine l_pint rfl rfl ?_
          refine l_nil ?_
          refine w_ret ?_
          refine fin2 rfl rfl ?_
          have hu : upR bs (indexR bs).2.1 fs (fr + cn - fs) ((indexR bs).2.1.length - (j - 1)) (j - 1) ([]) = none := by
            rw [← hup]
            obtain ⟨m', rfl⟩ : ∃ m', m = m' + 1 := ⟨m - 1, by omega⟩
            exact up_none (by omega) (by rw [hgdk]; exact hok0 (by simpa using h112))
          rw [seek_up (bs := bs) (fr := (fr : Int)) (cn := (cn : Int)) (by omega) (by omega) (by omega) hdn hu]
          exact ⟨none, 0, [], rfl, rfl, St.pick [1, 0] (pre := [_, _]) rfl (St.nilseg.2 (St.newRow (T := 30) (sz := 13) (H.drop1.drop1.drop1.drop1.drop1))) rfl⟩
        try simp only [sH] at h112
        refine l_pint rfl rfl ?_
        refine l_pint rfl rfl ?_
        refine l_pbool rfl rfl ?_
        refine l_pickF (v := .bool _) rfl rfl rfl ?_
        refine l_nil ?_
        refine w_cond rfl (fun c9 => ?_) (fun c9 => ?_)
        · try simp only [sH] at c9
          obtain ⟨hok, htb⟩ := hok1 (by simpa using h112)
          refine w_seq ?_
          refine w_region ?_
          refine l_pslice rfl rfl ?_
          refine l_pint rfl rfl ?_
          refine l_nil ?_
          refine w_ret ?_
          refine fin2 rfl rfl ?_
          have hu : upR bs (indexR bs).2.1 fs (fr + cn - fs) ((indexR bs).2.1.length - (j - 1)) (j - 1) ([]) = none := by
            rw [← hup]
            obtain ⟨m', rfl⟩ : ∃ m', m = m' + 1 := ⟨m - 1, by omega⟩
            exact up_bad (by omega) (by rw [hgdk]; exact hok) (by omega)
          rw [seek_up (bs := bs) (fr := (fr : Int)) (cn := (cn : Int)) (by omega) (by omega) (by omega) hdn hu]
          exact ⟨none, 0, [], rfl, rfl, St.pick [1, 0] (pre := [_, _]) rfl (St.nilseg.2 (St.newRow (T := 30) (sz := 13) (H.drop1.drop1.drop1.drop1.drop1))) rfl⟩
        try simp only [sH] at c9
        obtain ⟨hok, htb⟩ := hok1 (by simpa using h112)
        have hx32 := (chunkAt_inv hok).2.2.1
        rw [evx_len] at hx32
        refine w_skip ?_
        refine w_cutG (G := Nat × Option Addr × Nat × List EvM) [16, 23, 24, 25, 117, 118, 119, 120, 121, 122, 123, 124, 125, 126, 127, 128, 129, 130, 131, 132, 133, 134, 135, 136, 137, 138, 139, 140, 141, 142, 143, 144, 145] (fun ⟨i, ea, ec, es⟩ => [(16, .slice ea es.length ec)]) (fun ⟨i, ea, ec, es⟩ w => (i = txs.length ∨ (fr - fs) + cn ≤ (hv ++ ((txs.map Tx.bs).map fun t => (getEv t).1).take i).length) ∧ es.map EvM.e = outL (fr - fs) cn (hv ++ ((txs.map Tx.bs).map fun t => (getEv t).1).take i) ∧ i ≤ txs.length ∧ es.length ≤ 32 * (k + 1) ∧ St W w (row 30 13 ea es.length ec (evsV es) :: Segs (es.map EvM.seg) :: row 28 1 ta txs.length tc (txs.map Tx.v) :: Segs (txs.map Tx.segF) :: row 3 1 xa (indexR bs).2.1.length xc (natsV (indexR bs).2.1) :: F)) (fun _ => rfl) ?_ ?_
        · refine w_seq ?_
          refine w_region ?_
          refine l_pint rfl rfl ?_
          refine l_nil ?_
          refine w_block ?_
          refine w_loopG (G := Nat × Option Addr × Nat × List EvM) [16, 23, 24, 25, 117, 118, 119, 120, 121, 122, 123, 124, 125, 126, 127, 128, 129, 130, 131, 132, 133, 134, 135, 136, 137, 138, 139, 140, 141, 142, 143, 144, 145] (fun ⟨i, ea, ec, es⟩ => [(16, .slice ea es.length ec), (23, I (i : Int))]) (fun m ⟨i, ea, ec, es⟩ w => m + i = txs.length ∧ es.map EvM.e = outL (fr - fs) cn (hv ++ ((txs.map Tx.bs).map fun t => (getEv t).1).take i) ∧ i ≤ txs.length ∧ es.length ≤ 32 * (k + 1) ∧ St W w (row 30 13 ea es.length ec (evsV es) :: Segs (es.map EvM.seg) :: row 28 1 ta txs.length tc (txs.map Tx.v) :: Segs (txs.map Tx.segF) :: row 3 1 xa (indexR bs).2.1.length xc (natsV (indexR bs).2.1) :: F)) (fun _ => rfl) ?_ ?_
          · exact ⟨txs.length, (0, ea, ec, es), ⟨rfl, rfl, trivial⟩, by omega, by rw [List.take_zero, List.append_nil]; exact hes, Nat.zero_le _, by omega, St.pick [2, 3, 0, 1, 4] (pre := [_, _, _, _, _]) rfl H rfl⟩
          rintro m ⟨i, ea, ec, es⟩ ρ1 w ⟨hmi, hes, hi, hel, H⟩
          have hlen2 := hv_len (hv := hv) hi
          have hel1 : es.length = min cn (hv.length + i - (fr - fs)) := by rw [← List.length_map (f := EvM.e), hes, outL_len, hlen2]
          refine w_seq ?_
          refine w_seq ?_
          refine w_region ?_
          refine l_pint rfl rfl ?_
          refine l_pslice rfl rfl ?_
          refine l_v rfl (q_lenSlice rfl el_31 rfl) ?_
          refine l_pbool rfl rfl ?_
          refine l_pbool rfl rfl ?_
          refine l_split 121 rfl (fun h121 => ?_) (fun h121 => ?_)
          · try simp only [sH] at h121
            refine l_pslice rfl rfl ?_
            refine l_v rfl (q_lenSlice rfl el_57 rfl) ?_
            refine l_pint rfl rfl ?_
            refine l_pbool rfl rfl ?_
            refine l_pickT (v := .bool _) rfl rfl rfl ?_
            refine l_nil ?_
            refine w_cond rfl (fun c10 => ?_) (fun c10 => ?_)
            · try simp only [sH] at c10
              have hit : i < txs.length := by omega
              obtain ⟨tb, to_, hta, _⟩ := rd_cell ((H.rowInv (i := 2) rfl).2.2.2.2) (txv_get hit)
              refine w_skip ?_
              refine w_seq ?_
              refine w_block ?_
              refine w_seq ?_
              refine w_region ?_
              refine l_pint rfl rfl ?_
              refine l_pint rfl rfl ?_
              first | refine l_v rfl (q_add rfl rfl rfl (by simp only [inK]; omega)) ?_ | refine l_pint rfl rfl ?_
              refine l_pint rfl rfl ?_
              refine l_pbool rfl rfl ?_
              refine l_nil ?_
              refine w_cond rfl (fun c11 => ?_) (fun c11 => ?_)
              · try simp only [sH] at c11
                refine w_seq ?_
                refine w_region ?_
                refine l_pslice rfl rfl ?_
                refine l_pint rfl rfl ?_
                refine l_v rfl (q_indexSliceE i rfl el_31 rfl hta rfl rfl hit) ?_
                refine l_v rfl (q_load1 (v := .slice txs[i].a txs[i].bs.length txs[i].c) rfl c1_28 rfl (rd_at hta (H.rowInv (i := 2) rfl).2.2.2.2 (txv_get hit))) ?_
                refine b_call rfl cb_16 rfl (rGetEvent_ok H (txs_segsF 3 rfl (fun t h => by have := htb t h; omega) _ (List.getElem_mem hit)).1 rfl (segF_cap H 3 rfl _ (List.getElem_mem hit)) (by have := htb _ (List.getElem_mem hit); omega)) (fun v w hv => ?_)
                obtain ⟨va, vc, rfl, H⟩ := hv
                refine l_ptup rfl rfl ?_
                refine l_pagg rfl rfl ?_
                refine l_pint rfl rfl ?_
                refine b_alloc (cs := evt0.cells none 0) rfl ze_30 rfl H (fun b24 w H => ?_)
                refine b_store (cs' := (getEv txs[i].bs).1.cells va vc) rfl sz_30 rfl rfl rfl rfl rfl H 0 rfl rfl (putL_all rfl) (fun w H => ?_)
                refine l_pint rfl rfl ?_
                refine l_nil ?_
                refine w_region ?_
                refine l_pslice rfl rfl ?_
                refine l_v rfl (q_loadN (vs := (getEv txs[i].bs).1.cells va vc) rfl ag_30 rfl rfl (H.cells 0 rfl)) ?_
                refine b_buildSlice (cs := (getEv txs[i].bs).1.cells va vc) rfl el_57 ze_30 rfl rfl (fill_evt _ _ _) H (fun b144 w H => ?_)
                refine b_append rfl el_57 ze_30 rfl rfl rfl H 3 rfl (ys := (getEv txs[i].bs).1.cells va vc) (Rd.mk (H.cells0 0 rfl)) rfl (fun u hu => oneEv [⟨(getEv txs[i].bs).1, va, vc⟩] u (by rw [evsV_one]; exact hu)) ⟨by omega, by simp only [maxLen]; omega⟩ (fun a145 c145 w H => ?_)
                have H := H.drop1.drop1
                refine l_pslice rfl rfl ?_
                refine l_nil ?_
                refine w_region ?_
                refine l_pint rfl rfl ?_
                first | refine l_v rfl (q_add rfl rfl rfl (by simp only [inK]; omega)) ?_ | refine l_pint rfl rfl ?_
                refine l_pint rfl rfl ?_
                refine l_nil ?_
                refine ⟨by repeat' first | exact aM | exact aR | refine aI rfl ?_ | refine aU rfl ?_ | refine aL rfl ?_, ?_⟩
                refine ⟨m - 1, (i + 1, a145, c145, es ++ [⟨(getEv txs[i].bs).1, va, vc⟩]), by omega, ⟨by rw [List.length_append]; rfl, congrArg (Value.int IntKind.i64) (by omega), trivial⟩, by omega, ?_, by omega, by rw [List.length_append]; show _ + 1 ≤ _; omega, ?_⟩
                · rw [List.map_append, hes, evx_take hit, ← List.append_assoc, outL_put (by omega) (by rw [outL_len]; omega)]
                  rfl
                rw [evsV_app, evsV_one, List.map_append, List.length_append]
                exact St.pick [1, 0, 2, 3, 4] (pre := [_, _, _, _, _]) rfl (St.snocseg.1 (St.pick [2, 0, 1, 3, 4, 5] (pre := [_, _, _, _, _, _]) rfl H rfl)) rfl
              try simp only [sH] at c11
              refine w_skip ?_
              refine w_region ?_
              refine l_pint rfl rfl ?_
              first | refine l_v rfl (q_add rfl rfl rfl (by simp only [inK]; omega)) ?_ | refine l_pint rfl rfl ?_
              refine l_pint rfl rfl ?_
              refine l_nil ?_
              refine ⟨by repeat' first | exact aM | exact aR | refine aI rfl ?_ | refine aU rfl ?_ | refine aL rfl ?_, ?_⟩
              exact ⟨m - 1, (i + 1, ea, ec, es), by omega, ⟨rfl, congrArg (Value.int IntKind.i64) (by omega), trivial⟩, by omega, by rw [evx_take hit, ← List.append_assoc, outL_skip (by omega)]; exact hes, by omega, hel, H⟩
            try simp only [sH] at c10
            refine w_exit ?_
            refine ⟨by repeat' first | exact aM | exact aR | refine aI rfl ?_ | refine aU rfl ?_ | refine aL rfl ?_, ?_⟩
            exact ⟨(i, ea, ec, es), ⟨rfl, trivial⟩, .inr (by omega), hes, hi, hel, H⟩
          try simp only [sH] at h121
          refine l_no rfl ?_
          refine l_no rfl ?_
          refine l_no rfl ?_
          refine l_no rfl ?_
          refine l_pickF (v := .bool _) rfl rfl rfl ?_
          refine l_nil ?_
          refine w_cond_f rfl ?_
          refine w_exit ?_
          refine ⟨by repeat' first | exact aM | exact aR | refine aI rfl ?_ | refine aU rfl ?_ | refine aL rfl ?_, ?_⟩
          exact ⟨(i, ea, ec, es), ⟨rfl, trivial⟩, .inl (by omega), hes, hi, hel, H⟩
        rintro ⟨i, ea, ec, es⟩ ρ1 w ⟨hfin, hes, hi, hel, H⟩
        have hful : es.map EvM.e = outL (fr - fs) cn (hv ++ ((txs.map Tx.bs).map fun t => (getEv t).1)) := by
          rcases hfin with h | h
          · rw [hes, List.take_of_length_le (by rw [evx_len]; omega)]
          rw [hes, ← outL_full (r := ((txs.map Tx.bs).map fun t => (getEv t).1).drop i) h, List.append_assoc, List.take_append_drop]
        have hxl := evx_len txs
        have hal : (hv ++ ((txs.map Tx.bs).map fun t => (getEv t).1)).length = hv.length + txs.length := by rw [List.length_append, hxl]
        refine w_seq ?_
        refine w_region ?_
        refine l_pint rfl rfl ?_
        refine l_pslice rfl rfl ?_
        refine l_v rfl (q_lenSlice rfl el_31 rfl) ?_
        first | refine l_v rfl (q_addW rfl rfl rfl) ?_ | refine l_pint rfl rfl ?_
        refine l_pint rfl rfl ?_
        refine l_nil ?_
        refine w_region ?_
        refine l_pint rfl rfl ?_
        first | refine l_v rfl (q_add rfl rfl rfl (by simp only [inK]; omega)) ?_ | refine l_pint rfl rfl ?_
        refine l_pint rfl rfl ?_
        refine l_nil ?_
        refine ⟨by repeat' first | exact aM | exact aR | refine aI rfl ?_ | refine aU rfl ?_ | refine aL rfl ?_, ?_⟩
        refine ⟨m - 1, (k + 1, IntKind.wrap .i64 ((x : Int) + (txs.length : Int)), ea, ec, es, hv ++ ((txs.map Tx.bs).map fun t => (getEv t).1)), by omega, ⟨congrArg (Value.int IntKind.i64) (by omega), rfl, rfl, trivial⟩, by omega, hful, fun h => ?_, ?_, ?_, ?_⟩
        · rw [wrap_inK (by simp only [inK]; omega)]; omega
        · have := (chunkAt_inv hok).2.2.1; omega
        · rw [← hup]
          obtain ⟨m', rfl⟩ : ∃ m', m = m' + 1 := ⟨m - 1, by omega⟩
          rw [up_next (by omega) (by rw [hgdk]; exact hok) (by omega)]
          rfl
        exact St.pick [0, 1, 4] (pre := [_, _, _, _, _]) rfl H rfl
      try simp only [sH] at c8
      refine w_exit ?_
      refine ⟨by repeat' first | exact aM | exact aR | refine aI rfl ?_ | refine aU rfl ?_ | refine aL rfl ?_, ?_⟩
      exact ⟨(k, nx, ea, ec, es, hv), ⟨rfl, trivial⟩, .inr (by omega), by omega, hes, hnx, hhv, by rw [show (indexR bs).2.1.length - k = m by omega]; exact hup, H⟩
    try simp only [sH] at h94
    refine l_no rfl ?_
    refine l_no rfl ?_
    refine l_no rfl ?_
    refine l_no rfl ?_
    refine l_pickF (v := .bool _) rfl rfl rfl ?_
    refine l_nil ?_
    refine w_cond_f rfl ?_
    refine w_exit ?_
    refine ⟨by repeat' first | exact aM | exact aR | refine aI rfl ?_ | refine aU rfl ?_ | refine aL rfl ?_, ?_⟩
    exact ⟨(k, nx, ea, ec, es, hv), ⟨rfl, trivial⟩, .inl (by omega), by omega, hes, hnx, hhv, by rw [show (indexR bs).2.1.length - k = m by omega]; exact hup, H⟩
  rintro ⟨k, nx, ea, ec, es, hv⟩ ρ1 w ⟨hfin, hkl, hes, hnx, hhv, hup, H⟩
  have hel0 : es.length = min cn (hv.length - (fr - fs)) := by rw [← List.length_map (f := EvM.e), hes, outL_len]
  refine w_seq ?_
  refine w_seq ?_
  refine w_region ?_
  refine l_pslice rfl rfl ?_
  refine l_v rfl (q_lenSlice rfl el_57 rfl) ?_
  refine l_pint rfl rfl ?_
  refine l_pbool rfl rfl ?_
  refine l_nil ?_
  refine w_cond rfl (fun c12 => ?_) (fun c12 => ?_)
  · try simp only [sH] at c12
    refine w_seq ?_
    refine w_region ?_
    refine l_pslice rfl rfl ?_
    refine l_pint rfl rfl ?_
    refine l_nil ?_
    refine w_ret ?_
    refine fin2 rfl rfl ?_
    have hu : upR bs (indexR bs).2.1 fs (fr + cn - fs) ((indexR bs).2.1.length - (j - 1)) (j - 1) ([]) = none := by
      rw [← hup, show (indexR bs).2.1.length - k = 0 by omega]
      exact up_end (by omega)
    rw [seek_up (bs := bs) (fr := (fr : Int)) (cn := (cn : Int)) (by omega) (by omega) (by omega) hdn hu]
    exact ⟨none, 0, [], rfl, rfl, St.pick [1, 0] (pre := [_, _]) rfl (St.nilseg.2 (St.newRow (T := 30) (sz := 13) (H.drop1.drop1.drop1))) rfl⟩
  try simp only [sH] at c12
  refine w_skip ?_
  refine w_seq ?_
  refine w_region ?_
  refine l_pslice rfl rfl ?_
  refine l_pslice rfl rfl ?_
  refine l_pint rfl rfl ?_
  refine l_nil ?_
  refine w_ret ?_
  refine fin2 rfl rfl ?_
  have hu : upR bs (indexR bs).2.1 fs (fr + cn - fs) ((indexR bs).2.1.length - (j - 1)) (j - 1) ([]) = some hv := by
    rw [← hup]
    exact up_done (by omega)
  rw [seek_ok (bs := bs) (fr := (fr : Int)) (cn := (cn : Int)) (by omega) (by omega) (by omega) hdn hu]
  exact ⟨ea, ec, es, hes, rfl, St.pick [0, 1] (pre := [_, _, _]) rfl H rfl⟩
end Go.Proofs.YtfpmnhmdphaceaaDoor
