/- A part of this claim: laws of the tape's functions and of plain lists; no conditions beyond those that the theorems name. -/
import Derived.Test.YtfpmnhmdphaceaaGreatDoorZap42
import Derived.Test.YtfpmnhmdphaceaaGreatDoorZapPAll
import Derived.Test.YtfpmnhmdphaceaaGreatDoorZadAll
namespace Go.Proofs.YtfpmnhmdphaceaaGreatDoor
open Go.EW
attribute [local irreducible] EW.W EW.L EW.fin block8 outB shaL
set_option linter.unusedVariables false
set_option linter.unusedSimpArgs false
attribute [local irreducible] crcN crcB crcL sealL openR sealR
theorem csOf_take {us : List Txt} {i : Nat} (hi : i < us.length) : csOf (us.take (i + 1)) = addC (csOf (us.take i)) us[i] := by
  rw [List.take_succ_eq_append_getElem hi, csOf_snoc]
theorem fit_eq (A : List (List Txt)) (X : List Txt) (b : Txt) : fitC ⟨A, X⟩ b = (decide (X.length < 32) && decide ((chunkB (cnt A) (X ++ [b])).length ≤ 32756)) := by
  unfold fitC fitsN
  rw [chunkB_len, sizeT_snoc, List.length_append]; rfl
theorem add_fit {A : List (List Txt)} {X : List Txt} {b : Txt} (h : fitC ⟨A, X⟩ b = true) : addC ⟨A, X⟩ b = ⟨A, X ++ [b]⟩ := by
  unfold addC; rw [if_neg (fun h2 => by rw [h] at h2; cases h2.2)]
theorem add_new {c : CS} {b : Txt} (h0 : c.cur.length > 0) (h : fitC c b = false) : addC c b = ⟨allC c, [b]⟩ := by
  unfold addC allC; rw [if_pos ⟨h0, h⟩, if_pos h0]
theorem all_cur {A : List (List Txt)} {X : List Txt} (h : X.length > 0) : allC ⟨A, X⟩ = A ++ [X] := by unfold allC; rw [if_pos h]
theorem drop_take1 {us : List Txt} {f n : Nat} (h : f + n < us.length) : (us.drop f).take (n + 1) = (us.drop f).take n ++ [us[f + n]] := by
  rw [List.take_succ_eq_append_getElem (by rw [List.length_drop]; omega), List.getElem_drop]
/-- chunks are laid out up to a text, with which a new one begins -/
structure NewAt (us : List Txt) (f : Nat) : Prop where
  le : f ≤ us.length
  new : ∀ h : f < us.length, addC (csOf (us.take f)) us[f] = ⟨chsOf (us.take f), [us[f]]⟩
theorem NewAt.zero (us : List Txt) : NewAt us 0 := ⟨Nat.zero_le _, fun h => by rw [List.take_zero]; rfl⟩
theorem cnt_at {us : List Txt} {f : Nat} (h : f ≤ us.length) : cnt (chsOf (us.take f)) = f := by rw [cnt_all, List.length_take]; omega
/-- n texts of a chunk -/
structure In (us : List Txt) (f n : Nat) : Prop where
  pos : 1 ≤ n
  le : f + n ≤ us.length
  top : n ≤ 32
  cs : csOf (us.take (f + n)) = ⟨chsOf (us.take f), (us.drop f).take n⟩
theorem In.one {us : List Txt} {f : Nat} (h : NewAt us f) (hf : f < us.length) : In us f 1 := by
  refine ⟨Nat.le_refl _, hf, by decide, ?_⟩
  rw [csOf_take hf, h.new hf, show (us.drop f).take 1 = [us[f]] by have := drop_take1 (us := us) (f := f) (n := 0) hf; simpa using this]
theorem In.len {us : List Txt} {f n : Nat} (h : In us f n) : ((us.drop f).take n).length = n := by have := h.le; rw [List.length_take, List.length_drop]; omega
theorem In.step {us : List Txt} {f n : Nat} (h : In us f n) (hf : f + n < us.length) (hn : n < 32) (hc : (chunkB f ((us.drop f).take (n + 1))).length ≤ 32756) : In us f (n + 1) := by
  have hfe := cnt_at (us := us) (f := f) (by have := h.le; omega)
  have hfit : fitC ⟨chsOf (us.take f), (us.drop f).take n⟩ us[f + n] = true := by
    rw [fit_eq, h.len, hfe, ← drop_take1 hf, decide_eq_true hn, decide_eq_true hc]; rfl
  refine ⟨by omega, hf, hn, ?_⟩
  rw [← Nat.add_assoc, csOf_take hf, h.cs, add_fit hfit, ← drop_take1 hf]
theorem In.all {us : List Txt} {f n : Nat} (h : In us f n) : chsOf (us.take (f + n)) = chsOf (us.take f) ++ [(us.drop f).take n] := by
  show allC (csOf (us.take (f + n))) = _
  rw [h.cs, all_cur (by rw [h.len]; exact h.pos)]
theorem In.stop {us : List Txt} {f n : Nat} (h : In us f n) (hs : f + n < us.length → n < 32 → ¬ (chunkB f ((us.drop f).take (n + 1))).length ≤ 32756) : NewAt us (f + n) := by
  have hfe := cnt_at (us := us) (f := f) (by have := h.le; omega)
  refine ⟨h.le, fun hf => ?_⟩
  have h2 := h.all
  rw [show chsOf (us.take (f + n)) = allC (csOf (us.take (f + n))) from rfl] at h2 ⊢
  rw [h.cs]
  refine add_new (by rw [h.len]; exact h.pos) ?_
  rw [fit_eq, h.len, hfe, ← drop_take1 hf]
  by_cases hn : n < 32
  · rw [decide_eq_false (hs hf hn), Bool.and_false]
  rw [decide_eq_false hn, Bool.false_and]
theorem txs_sub {W : World} {F : List Seg} {a : Option Addr} {ts : List Tx} (h : RdIn W F a (ts.map Tx.v)) (f n cap : Nat) (hc : cap = f → n = 0) : RdIn W F (subA a 1 f cap) (((ts.drop f).take n).map Tx.v) := by
  have h2 := h.subA (sz := 1) (l := f) (m := cap) (j := n) (fun e => .inl (hc e))
  rw [Nat.mul_one, ← List.map_drop, ← List.map_take] at h2
  exact h2
theorem TxsOk.sub {W : World} {F : List Seg} {ts us : List Tx} (h : TxsOk W F ts) (hs : ∀ x ∈ us, x ∈ ts) : TxsOk W F us := fun x hx => h x (hs x hx)
theorem map_sub (ts : List Tx) (f n : Nat) : ((ts.drop f).take n).map Tx.bs = ((ts.map Tx.bs).drop f).take n := by rw [List.map_take, List.map_drop]
set_option maxRecDepth 8000 in
set_option maxHeartbeats 1000000 in
theorem Chunks_r {W w : World} {F : List Seg} (H : St W w F) {k : Nat} {ta : Option Addr} {tc : Nat} {ts : List Tx} (hr : RdIn W F ta (ts.map Tx.v)) (hk : ts.length = k) (hkc : ts.length ≤ tc) (htx : TxsOk W F ts) (hts : ts.length ≤ 100000) :
    Ok Tryz.prog 43 [.slice ta k tc].toArray w (fun r w' => ∃ la lc, r = .slice la (chsOf (ts.map Tx.bs)).length lc ∧ St W w' (row 3 1 la (chsOf (ts.map Tx.bs)).length lc (natsV ((chsOf (ts.map Tx.bs)).map List.length)) :: F)) := by
  subst hk
  refine enter (n := 43) (rs := #[.tmp 2]) Tryz.func43 rfl rfl rfl rfl ?_
  refine w_seq ?_
  refine w_region ?_
  refine l_pslice rfl rfl ?_
  refine l_nil ?_
  refine w_seq ?_
  refine w_region ?_
  refine l_pslice rfl rfl ?_
  refine l_nil ?_
  refine w_seq ?_
  refine w_region ?_
  refine l_pint rfl rfl ?_
  refine l_nil ?_
  refine w_seq ?_
  refine w_block ?_
  refine w_loopG (G := Nat × Option Addr × Nat) [3, 4, 5, 6, 7, 8, 9, 10, 11, 12, 13, 14, 15, 16, 17, 18, 19, 20, 21, 22, 23, 24, 25, 26, 27, 28, 29, 30, 31, 32, 33, 34, 35, 36, 37, 38, 39, 40, 41] (fun ⟨f, la, lc⟩ => [(3, .slice la (chsOf ((ts.map Tx.bs).take (f))).length lc), (4, I (f : Int))]) (fun m ⟨f, la, lc⟩ w => m + f = ts.length ∧ NewAt (ts.map Tx.bs) f ∧ (chsOf ((ts.map Tx.bs).take (f))).length ≤ f ∧ St W w (row 3 1 la (chsOf ((ts.map Tx.bs).take (f))).length lc (natsV ((chsOf ((ts.map Tx.bs).take (f))).map List.length)) :: F)) (fun _ => rfl) ?_ ?_
  · exact ⟨ts.length, (0, none, 0), ⟨rfl, rfl, trivial⟩, rfl, NewAt.zero _, Nat.zero_le _, St.newRow (T := 3) (sz := 1) H⟩
  rintro m ⟨f, la, lc⟩ ρ1 w ⟨hmf, hnew, hcl, H⟩
  refine w_seq ?_
  refine w_seq ?_
  refine w_region ?_
  refine l_pint rfl rfl ?_
  refine l_pslice rfl rfl ?_
  refine l_v rfl (q_lenSlice rfl el_37 rfl) ?_
  refine l_pbool rfl rfl ?_
  refine l_nil ?_
  refine w_cond rfl (fun c1 => ?_) (fun c1 => ?_)
  · try simp only [sH] at c1
    refine w_skip ?_
    refine w_block ?_
    refine w_seq ?_
    refine w_region ?_
    refine l_pint rfl rfl ?_
    refine l_nil ?_
    refine w_cutG (G := Nat) [5, 10, 11, 12, 13, 14, 15, 16, 17, 18, 19, 20, 21, 22, 23, 24, 25, 26, 27, 28, 29, 30, 31, 32, 33, 34] (fun n => [(5, I (n : Int))]) (fun n w => In (ts.map Tx.bs) f n ∧ (f + n < ts.length → n < 32 → ¬ (chunkB f (((ts.map Tx.bs).drop f).take (n + 1))).length ≤ 32756) ∧ St W w (row 3 1 la (chsOf ((ts.map Tx.bs).take (f))).length lc (natsV ((chsOf ((ts.map Tx.bs).take (f))).map List.length)) :: F)) (fun _ => rfl) ?_ ?_
    · refine w_block ?_
      refine w_loopG (G := Nat) [5, 10, 11, 12, 13, 14, 15, 16, 17, 18, 19, 20, 21, 22, 23, 24, 25, 26, 27, 28, 29, 30, 31, 32, 33, 34] (fun n => [(5, I (n : Int))]) (fun m n w => m + n = 33 ∧ In (ts.map Tx.bs) f n ∧ St W w (row 3 1 la (chsOf ((ts.map Tx.bs).take (f))).length lc (natsV ((chsOf ((ts.map Tx.bs).take (f))).map List.length)) :: F)) (fun _ => rfl) ?_ ?_
      · exact ⟨32, 1, ⟨rfl, trivial⟩, rfl, In.one hnew (by rw [List.length_map]; omega), H⟩
      rintro m n ρ1 w ⟨hmn, hin, H⟩
      refine w_seq ?_
      refine w_seq ?_
      refine w_region ?_
      refine l_pint rfl rfl ?_
      refine l_pint rfl rfl ?_
      first | refine l_v rfl (q_add rfl rfl rfl (by simp only [inK]; omega)) ?_ | refine l_pint rfl rfl ?_
      refine l_pslice rfl rfl ?_
      refine l_v rfl (q_lenSlice rfl el_37 rfl) ?_
      refine l_pbool rfl rfl ?_
      refine l_pbool rfl rfl ?_
      refine l_split 16 rfl (fun h16 => ?_) (fun h16 => ?_)
      · try simp only [sH] at h16
        have hle := hin.le
        rw [List.length_map] at hle
        have hpos := hin.pos
        have htop := hin.top
        refine l_pint rfl rfl ?_
        refine l_pbool rfl rfl ?_
        refine l_pickT (v := .bool _) rfl rfl rfl ?_
        refine l_pbool rfl rfl ?_
        refine l_split 20 rfl (fun h20 => ?_) (fun h20 => ?_)
        · try simp only [sH] at h20
          refine l_pint rfl rfl ?_
          refine l_pslice rfl rfl ?_
          refine l_pint rfl rfl ?_
          refine l_pint rfl rfl ?_
          refine l_pint rfl rfl ?_
          first | refine l_v rfl (q_add rfl rfl rfl (by simp only [inK]; omega)) ?_ | refine l_pint rfl rfl ?_
          first | refine l_v rfl (q_add rfl rfl rfl (by simp only [inK]; omega)) ?_ | refine l_pint rfl rfl ?_
          refine l_v rfl (q_slice (l := f) (h := f + n + 1) (m := tc) rfl el_37 rfl Bnd.none (by have h := @Bnd.mk .i64 ((f : Int) + (n : Int) + 1) ts.length tc ⟨by omega, by omega⟩; rwa [show ((f : Int) + (n : Int) + 1).toNat = f + n + 1 by omega] at h) (Bnd.nat (by omega)) (by simp)) ?_
          refine b_call rfl cb_44 rfl (chunk_r (ts := (ts.drop f).take (n + 1)) H (txs_sub (hr.up 1 rfl) f (n + 1) tc (fun e => by omega)) (by rw [List.length_take, List.length_drop]; omega) ((htx.up 1 rfl).sub (fun x hx => List.mem_of_mem_drop (List.mem_of_mem_take hx))) (by rw [List.length_take]; omega) (by omega)) (fun v w hv => ?_)
          obtain ⟨ka, kc, rfl, H⟩ := hv
          refine l_v rfl (q_lenSlice rfl el_50 rfl) ?_
          refine l_pbool rfl rfl ?_
          refine l_pickT (v := .bool _) rfl rfl rfl ?_
          refine l_nil ?_
          refine w_cond rfl (fun c2 => ?_) (fun c2 => ?_)
          · try simp only [sH] at c2
            refine w_skip ?_
            refine w_block ?_
            refine w_region ?_
            refine l_pint rfl rfl ?_
            first | refine l_v rfl (q_add rfl rfl rfl (by simp only [inK]; omega)) ?_ | refine l_pint rfl rfl ?_
            refine l_pint rfl rfl ?_
            refine l_nil ?_
            refine ⟨by repeat' first | exact aM | exact aR | refine aI rfl ?_ | refine aU rfl ?_ | refine aL rfl ?_, ?_⟩
            exact ⟨m - 1, n + 1, by omega, ⟨congrArg (Value.int IntKind.i64) (by omega), trivial⟩, by omega, hin.step (by rw [List.length_map]; omega) (by omega) (by rw [← map_sub]; omega), H.drop1⟩
          try simp only [sH] at c2
          refine w_exit ?_
          refine ⟨by repeat' first | exact aM | exact aR | refine aI rfl ?_ | refine aU rfl ?_ | refine aL rfl ?_, ?_⟩
          exact ⟨n, ⟨rfl, trivial⟩, hin, fun _ _ => by rw [← map_sub]; omega, H.drop1⟩
        try simp only [sH] at h20
        refine l_no rfl ?_
        refine l_no rfl ?_
        refine l_no rfl ?_
        refine l_no rfl ?_
        refine l_no rfl ?_
        refine l_no rfl ?_
        refine l_no rfl ?_
        refine l_no rfl ?_
        refine l_no rfl ?_
        refine l_no rfl ?_
        refine l_no rfl ?_
        refine l_pickF (v := .bool _) rfl rfl rfl ?_
        refine l_nil ?_
        refine w_cond_f rfl ?_
        refine w_exit ?_
        refine ⟨by repeat' first | exact aM | exact aR | refine aI rfl ?_ | refine aU rfl ?_ | refine aL rfl ?_, ?_⟩
        exact ⟨n, ⟨rfl, trivial⟩, hin, fun h1 h2 => by omega, H⟩
      try simp only [sH] at h16
      have hle := hin.le
      rw [List.length_map] at hle
      have hpos := hin.pos
      have htop := hin.top
      refine l_no rfl ?_
      refine l_no rfl ?_
      refine l_pickF (v := .bool _) rfl rfl rfl ?_
      refine l_pbool rfl rfl ?_
      refine l_no rfl ?_
      refine l_no rfl ?_
      refine l_no rfl ?_
      refine l_no rfl ?_
      refine l_no rfl ?_
      refine l_no rfl ?_
      refine l_no rfl ?_
      refine l_no rfl ?_
      refine l_no rfl ?_
      refine l_no rfl ?_
      refine l_no rfl ?_
      refine l_pickF (v := .bool _) rfl rfl rfl ?_
      refine l_nil ?_
      refine w_cond_f rfl ?_
      refine w_exit ?_
      refine ⟨by repeat' first | exact aM | exact aR | refine aI rfl ?_ | refine aU rfl ?_ | refine aL rfl ?_, ?_⟩
      exact ⟨n, ⟨rfl, trivial⟩, hin, fun h1 h2 => by omega, H⟩
    rintro n ρ1 w ⟨hin, hst, H⟩
    have hpos := hin.pos
    have hle := hin.le
    rw [List.length_map] at hle
    have htop := hin.top
    refine w_seq ?_
    refine w_region ?_
    refine l_pslice rfl rfl ?_
    refine l_pint rfl rfl ?_
    refine b_buildSlice (cs := [I (n : Int)]) rfl el_58 ze_3 rfl rfl rfl H (fun b37 w H => ?_)
    refine b_append rfl el_58 ze_3 rfl rfl rfl H 1 rfl (Rd.mk (H.cells0 0 rfl)) rfl (fun u hu => by obtain rfl := List.mem_singleton.1 hu; rfl) ⟨by omega, by simp only [maxLen]; omega⟩ (fun a38 c38 w H => ?_)
    have H := H.drop1
    refine l_pslice rfl rfl ?_
    refine l_nil ?_
    refine w_region ?_
    refine l_pint rfl rfl ?_
    refine l_pint rfl rfl ?_
    first | refine l_v rfl (q_add rfl rfl rfl (by simp only [inK]; omega)) ?_ | refine l_pint rfl rfl ?_
    refine l_pint rfl rfl ?_
    refine l_nil ?_
    refine ⟨by repeat' first | exact aM | exact aR | refine aI rfl ?_ | refine aU rfl ?_ | refine aL rfl ?_, ?_⟩
    have hal := hin.all
    refine ⟨m - n, (f + n, a38, c38), by have := hin.pos; omega, ⟨by show _ = Value.slice a38 ((chsOf ((ts.map Tx.bs).take (f + n))).length) c38; rw [hal, List.length_append]; rfl, congrArg (Value.int IntKind.i64) (by omega), trivial⟩, by have := hin.le; rw [List.length_map] at this; omega, hin.stop (by rw [List.length_map]; exact hst), by rw [hal, List.length_append]; have := hin.pos; show _ + 1 ≤ _; omega, ?_⟩
    rw [hal, List.length_append, List.map_append]
    unfold natsV at H ⊢
    rw [List.map_append]
    show St W w (row 3 1 a38 _ c38 (_ ++ [I (((((ts.map Tx.bs).drop f).take n).length : Nat) : Int)]) :: F)
    rw [hin.len]
    exact H
  try simp only [sH] at c1
  have hfl := hnew.le
  rw [List.length_map] at hfl
  obtain rfl : f = ts.length := by omega
  refine w_exit ?_
  refine w_seq ?_
  refine w_region ?_
  refine l_pslice rfl rfl ?_
  refine l_pslice rfl rfl ?_
  refine l_nil ?_
  refine w_ret ?_
  refine fin1 (v := .slice _ _ _) rfl ?_
  have e : (ts.map Tx.bs).take ts.length = (ts.map Tx.bs) := List.take_of_length_le (by rw [List.length_map]; omega)
  rw [e] at H ⊢
  exact ⟨la, lc, rfl, H⟩
theorem seal_r {W w : World} {F : List Seg} (H : St W w F) {a : Option Addr} {n c : Nat} {bs : List UInt8} (hr : RdIn W F a (bs.map B)) (hl : bs.length = n) (hn : n ≤ 140737488355328) :
    Ok Tryz.prog 41 [.slice a n c].toArray w (fun r w' => ∃ a' c', r = .slice a' (sealR bs).1.length c' ∧ St W w' (row 5 1 a' (sealR bs).1.length c' ((sealR bs).1.map B) :: F)) := by
  refine enter (n := 11) (rs := #[.tmp 2]) Tryz.func41 rfl rfl rfl rfl ?_
  refine w_seq ?_
  refine w_region ?_
  refine l_pslice rfl rfl ?_
  refine l_nil ?_
  refine w_seq ?_
  refine w_region ?_
  refine l_pslice rfl rfl ?_
  refine b_call rfl cb_69 rfl (rSeal_ok H hr hl hn) (fun v w hv => ?_)
  obtain ⟨a', c', rfl, H⟩ := hv
  refine l_ptup rfl rfl ?_
  refine l_pslice rfl rfl ?_
  refine l_pint rfl rfl ?_
  refine l_pslice rfl rfl ?_
  refine l_pint rfl rfl ?_
  refine l_nil ?_
  refine w_seq ?_
  refine w_region ?_
  refine l_pslice rfl rfl ?_
  refine l_pslice rfl rfl ?_
  refine l_nil ?_
  refine w_ret ?_
  refine fin1 (v := .slice _ _ _) rfl ?_
  exact ⟨a', c', rfl, H⟩
set_option maxHeartbeats 1000000 in
theorem foot_r {W w : World} {F : List Seg} (H : St W w F) {n k pc m fc : Nat} {pa fa : Option Addr} {ps : List Nat} {fs : List UInt8} (hr : RdIn W F pa (natsV ps)) (hk : ps.length = k) (hrf : RdIn W F fa (fs.map B)) (hm : fs.length = m) (hfl : fs.length ≤ 140737488355200) (hn : n ≤ 1000000000) (hpl : ps.length ≤ 1000000) (hpm : ∀ x ∈ ps, x ≤ 9223372036854775807) :
    Ok Tryz.prog 45 [I (n : Int), .slice pa k pc, .slice fa m fc].toArray w (fun r w' => ∃ a' c', r = .slice a' (footB n ps fs).length c' ∧ St W w' (row 5 1 a' (footB n ps fs).length c' ((footB n ps fs).map B) :: F)) := by
  subst hk; subst hm
  have hz3 := formL_len 3
  have hzf := formL_len n
  have hzk := formL_len ps.length
  have hsz := fun i => natsB_len (ps.take i)
  refine enter (n := 35) (rs := #[.tmp 6]) Tryz.func45 rfl rfl rfl rfl ?_
  refine w_seq ?_
  refine w_region ?_
  refine l_pslice rfl rfl ?_
  refine l_nil ?_
  refine w_seq ?_
  refine w_region ?_
  refine b_call rfl cb_34 rfl (rput_ok (n := 3) (bs := []) (St.newRow (T := 5) (sz := 1) H) (by decide) (by decide)) (fun v w hv => ?_)
  obtain ⟨a1, c1, rfl, H⟩ := hv
  refine l_pint rfl rfl ?_
  refine b_call rfl cb_34 rfl (rput_ok (n := n) H (by omega) (by rw [List.nil_append]; omega)) (fun v w hv => ?_)
  obtain ⟨a2, c2, rfl, H⟩ := hv
  refine l_pslice rfl rfl ?_
  refine l_v rfl (q_lenSlice rfl el_58 rfl) ?_
  refine b_call rfl cb_34 rfl (rput_ok (n := ps.length) H (by omega) (by simp only [List.length_append, List.nil_append]; omega)) (fun v w hv => ?_)
  obtain ⟨a3, c3, rfl, H⟩ := hv
  rw [List.nil_append] at H ⊢
  refine l_pslice rfl rfl ?_
  refine l_nil ?_
  refine w_seq ?_
  refine w_seq ?_
  refine w_region ?_
  refine l_pint rfl rfl ?_
  refine l_nil ?_
  refine w_block ?_
  refine w_loopG (G := Nat × Option Addr × Nat) [7, 8, 16, 17, 18, 19, 20, 21, 22, 23, 24, 25, 26, 27] (fun ⟨i, xa, xc⟩ => [(7, .slice xa (formL 3 ++ formL n ++ formL ps.length ++ natsB (ps.take i)).length xc), (8, I (i : Int))]) (fun m ⟨i, xa, xc⟩ w => m + i = ps.length ∧ St W w (row 5 1 xa (formL 3 ++ formL n ++ formL ps.length ++ natsB (ps.take i)).length xc ((formL 3 ++ formL n ++ formL ps.length ++ natsB (ps.take i)).map B) :: F)) (fun _ => rfl) ?_ ?_
  · refine ⟨ps.length, (0, a3, c3), ⟨?_, rfl, trivial⟩, rfl, ?_⟩
    · rw [List.take_zero, show natsB [] = [] from rfl, List.append_nil]; rfl
    rw [List.take_zero, show natsB [] = [] from rfl, List.append_nil]; exact H
  rintro m ⟨i, xa, xc⟩ ρ1 w ⟨hmi, H⟩
  refine w_seq ?_
  refine w_seq ?_
  refine w_region ?_
  refine l_pint rfl rfl ?_
  refine l_pslice rfl rfl ?_
  refine l_v rfl (q_lenSlice rfl el_58 rfl) ?_
  refine l_pbool rfl rfl ?_
  refine l_nil ?_
  refine w_cond rfl (fun c1 => ?_) (fun c1 => ?_)
  · try simp only [sH] at c1
    have hi : i < ps.length := by omega
    obtain ⟨pb, po, hpa, hpc⟩ := nat_at (hr.use H 1 rfl) hi
    refine w_skip ?_
    refine w_seq ?_
    refine w_block ?_
    refine w_region ?_
    refine l_pslice rfl rfl ?_
    refine l_pslice rfl rfl ?_
    refine l_pint rfl rfl ?_
    refine l_v rfl (q_indexSliceE i rfl el_58 rfl hpa rfl rfl hi) ?_
    refine l_v rfl (q_load1 rfl c1_3 rfl hpc) ?_
    refine b_call rfl cb_34 rfl (rput_ok (n := ps[i]) H (hpm _ (List.getElem_mem hi)) (by have := hsz i; rw [List.length_take] at this; simp only [List.length_append]; omega)) (fun v w hv => ?_)
    obtain ⟨a27, c27, rfl, H⟩ := hv
    refine l_pslice rfl rfl ?_
    refine l_nil ?_
    refine w_region ?_
    refine l_pint rfl rfl ?_
    first | refine l_v rfl (q_add rfl rfl rfl (by simp only [inK]; omega)) ?_ | refine l_pint rfl rfl ?_
    refine l_pint rfl rfl ?_
    refine l_nil ?_
    refine ⟨by repeat' first | exact aM | exact aR | refine aI rfl ?_ | refine aU rfl ?_ | refine aL rfl ?_, ?_⟩
    have hct : formL 3 ++ formL n ++ formL ps.length ++ natsB (ps.take (i + 1)) = formL 3 ++ formL n ++ formL ps.length ++ natsB (ps.take i) ++ formL ps[i] := by rw [natsB_take hi, ← List.append_assoc]
    refine ⟨m - 1, (i + 1, a27, c27), by omega, ⟨by show _ = Value.slice a27 (formL 3 ++ formL n ++ formL ps.length ++ natsB (ps.take (i + 1))).length c27; rw [hct]; rfl, by exact congrArg (Value.int IntKind.i64) (Int.natCast_succ i).symm, trivial⟩, by omega, ?_⟩
    rw [hct]
    exact H
  try simp only [sH] at c1
  obtain rfl : i = ps.length := by omega
  refine w_exit ?_
  refine w_seq ?_
  refine w_region ?_
  refine l_pslice rfl rfl ?_
  refine b_call rfl cb_70 rfl (rSum_ok H (hrf.up 1 rfl) rfl (by omega)) (fun v w hv => ?_)
  obtain ⟨rfl, H⟩ := hv
  refine b_alloc rfl ze_145 rfl H (fun b9 w H => ?_)
  have hvl : ((shaL fs).map B).length = 32 := by rw [List.length_map, shaL_len]
  refine b_store (vs := (shaL fs).map B) rfl sz_145 rfl rfl rfl (by rw [hvl]; rfl) (all1 _) H 0 rfl (by rw [hvl]; rfl) (putL_all (by rw [hvl]; rfl)) (fun w H => ?_)
  have H2 := St.pick [1, 0] (pre := [_, _]) rfl H rfl
  refine l_nil ?_
  refine w_seq ?_
  refine w_region ?_
  refine l_pslice rfl rfl ?_
  refine b_call rfl cb_34 rfl (rput_ok (n := 32) H2 (by decide) (by have := hsz ps.length; rw [List.length_take] at this; simp only [List.length_append]; omega)) (fun v w hv => ?_)
  obtain ⟨a31, c31, rfl, H⟩ := hv
  refine l_pslice rfl rfl ?_
  refine l_nil ?_
  refine w_seq ?_
  refine w_region ?_
  refine l_pslice rfl rfl ?_
  refine l_v rfl (q_sliceArr rfl ar_145 rfl Bnd.none Bnd.none Bnd.none (by simp)) ?_
  refine b_append rfl el_50 ze_5 rfl rfl rfl H 0 rfl (ys := (shaL fs).map B) (by rw [subA_z]; exact Rd.mk (H.cells 1 rfl)) (by rw [List.length_map, shaL_len]) (EW.oneB _) ⟨by have := hsz ps.length; rw [List.length_take] at this; have := formL_len 32; simp only [List.length_append]; omega, by have := hsz ps.length; rw [List.length_take] at this; have := formL_len 32; simp only [maxLen, List.length_append]; omega⟩ (fun a34 c34 w H => ?_)
  refine l_pslice rfl rfl ?_
  refine l_nil ?_
  refine w_ret ?_
  refine fin1 (v := .slice _ _ _) rfl ?_
  have e : formL 3 ++ formL n ++ formL ps.length ++ natsB (ps.take ps.length) ++ formL 32 ++ shaL fs = footB n ps fs := by
    unfold footB; rw [List.take_length]
  have el : (formL 3 ++ formL n ++ formL ps.length ++ natsB (ps.take ps.length) ++ formL 32).length + 32 = (footB n ps fs).length := by rw [← e, List.length_append (bs := shaL fs), shaL_len]
  rw [el, ← List.map_append, e] at H
  refine ⟨a34, c34, ?_, H.erase 1⟩
  rw [← el]
end Go.Proofs.YtfpmnhmdphaceaaGreatDoor
