/- A part of this claim: laws of the tape's functions and of plain lists; no conditions beyond those that the theorems name. -/
import Derived.Test.YtfpmnhmdphaceaaGreatDoorZap8
namespace Go.Proofs.YtfpmnhmdphaceaaGreatDoor
open Go.EW
attribute [local irreducible] EW.W EW.L EW.fin block8 outB shaL
set_option linter.unusedVariables false
set_option linter.unusedSimpArgs false
def numV (e : Evt) : List Value := [I e.nd, I e.cl, I e.ix, I e.pl, I e.ct, I e.cu]
theorem numV_put (e : Evt) {i : Nat} (hi : i < 6) (x : Int) : putL (numV e) (0 + i * 1) [I x] = numV (e.put i x) := by
  match i, hi with
  | 0, _ => rfl
  | 1, _ => rfl
  | 2, _ => rfl
  | 3, _ => rfl
  | 4, _ => rfl
  | 5, _ => rfl
/-- but for its numbers, an event is as it was made -/
def Fresh (k : Int) (e : Evt) : Prop := e.k = k ∧ e.hi = 0 ∧ e.lo = 0 ∧ e.ok = 0 ∧ e.os = 0 ∧ e.ov = ⟨#[]⟩ ∧ e.bs = []
theorem Fresh.put {k : Int} {e : Evt} (h : Fresh k e) (i : Nat) (x : Int) : Fresh k (e.put i x) := by
  unfold Evt.put
  split <;> exact h
theorem ggo_fresh {b : List UInt8} {u : Nat} {k : Int} {st : Evt × Rs} (h : Fresh k st.1) : ∀ i, Fresh k (ggo b u st i).1
  | 0 => h
  | i + 1 => by
    rw [ggo, gnum]
    split
    · exact (ggo_fresh h i).put _ _
    exact ggo_fresh h i
theorem Fresh.cells {k : Int} {e : Evt} (h : Fresh k e) : e.cells none 0 = [I k, I e.nd, I e.cl, I e.ix, I e.pl, I e.ct, I e.cu, N64 0, N64 0, I 0, I 0, .string ⟨#[]⟩, .slice none 0 0] := by
  obtain ⟨h1, h2, h3, h4, h5, h6, h7⟩ := h
  unfold Evt.cells
  rw [h1, h2, h3, h4, h5, h6, h7]; rfl
theorem rInt_at0 {b : List UInt8} : (rInt b maxI ⟨0, 0⟩).2.err ≠ 0 ↔ (rInt b maxI ⟨0, 0⟩).2.at_ = 0 := by
  unfold rInt
  rw [if_neg (by simp)]
  split
  · rename_i h; exact ⟨fun _ => rfl, fun _ => h⟩
  rename_i h
  split
  · exact ⟨fun _ => rfl, fun _ => by simp⟩
  have := (getN_end (b := b) (p := 0) (by simpa using h)).1
  refine ⟨fun h => absurd rfl h, fun h => ?_⟩
  simp only at h; omega
theorem rEnd_err {b : List UInt8} {s : Rs} (h : s.err ≠ 0) : rEnd b s = s.err := if_pos h
theorem uses_gkind (b : List UInt8) : usesN ((rInt b maxI ⟨0, 0⟩).1 : Int) = usesN (gkind b) := by
  unfold gkind
  split
  · rfl
  rw [uses_zero (by omega)]; rfl
theorem gkind_of {b : List UInt8} (h : ¬ usesN ((rInt b maxI ⟨0, 0⟩).1 : Int) = 0) : gkind b = ((rInt b maxI ⟨0, 0⟩).1 : Int) := by
  have h2 := uses_pos h
  exact if_pos ⟨by omega, by omega⟩
theorem usesS_nil {k : Int} (h : (usesS k).length = 0) : usesN k = 0 := by
  by_cases hk : usesN k = 0
  · exact hk
  have := ((usesS_spec k).2 hk).1; omega
theorem usesS_len {k : Int} (h : ¬ (usesS k).length = 0) : ¬ usesN k = 0 ∧ (usesS k).length = 9 := by
  by_cases hk : usesN k = 0
  · rw [(usesS_spec k).1 hk] at h; exact absurd rfl h
  exact ⟨hk, ((usesS_spec k).2 hk).1⟩
theorem usesS_at {k : Int} {i : Nat} (h : ¬ usesN k = 0) (hi : i < 9) : (usesS k)[i]? = some ((usesS k).getD i 0) := by
  have h2 := ((usesS_spec k).2 h).1
  rw [List.getD_eq_getElem?_getD, List.getElem?_eq_getElem (by omega)]; rfl
theorem usesS_hit {k : Int} {i : Nat} (h : ¬ usesN k = 0) (hi : i < 9) (hc : ¬ ((((usesS k).getD i 0).toNat : Nat) : Int) = 46) : bitN (usesN k) i = true := by
  rw [← ((usesS_spec k).2 h).2 i hi]
  simp only [Bool.not_eq_true', beq_eq_false_iff_ne]; omega
theorem usesS_mis {k : Int} {i : Nat} (h : ¬ usesN k = 0) (hi : i < 9) (hc : ((((usesS k).getD i 0).toNat : Nat) : Int) = 46) : bitN (usesN k) i = false := by
  rw [← ((usesS_spec k).2 h).2 i hi]
  simp only [Bool.not_eq_false', beq_iff_eq]; omega
def grfL (rb b9 b2 : Nat) (ra : Option Addr) (rc : Nat) (bs : List UInt8) (e : Evt) (s : Rs) (a : Option Addr) (c : Nat) (F : List Seg) : List Seg :=
  refL rb ra rc bs s (rowF 5 1 a e.bs.length c (e.bs.map B) :: blk b9 (e.cells a c) 52 :: blk b2 (evt0.cells none 0) 52 :: F)
set_option maxRecDepth 8000 in
set_option maxHeartbeats 1000000 in
theorem rGetEvent_ok {W w : World} {F : List Seg} (H : St W w F) {aa : Option Addr} {n cc : Nat} {bs : List UInt8} (hr : RdIn W F aa (bs.map B)) (hl : bs.length = n) (hcp : bs.length ≤ cc) (hn : n ≤ 140737488355328) :
    Ok Tryz.prog 84 [.slice aa n cc].toArray w (fun r w' => ∃ a' c', r = .tuple #[.agg ((getEv bs).1.cells a' c').toArray, .int .i64 ((getEv bs).2 : Int)] ∧ St W w' (rowF 5 1 a' (getEv bs).1.bs.length c' ((getEv bs).1.bs.map B) :: F)) := by
  subst hl
  have hs0 := rInt_ok2 (m := maxI) (rs0 bs)
  have hb : bs.length ≤ 140737488355328 := by omega
  have hug := uses_gkind bs
  have hat := rInt_at0 (b := bs)
  have hsz : (⟨(usesS ((rInt bs maxI ⟨0, 0⟩).1 : Int)).toArray⟩ : ByteArray).size = (usesS ((rInt bs maxI ⟨0, 0⟩).1 : Int)).length := rfl
  refine enter (n := 108) (rs := #[.cell 2 52, .tmp 3]) Tryz.func84 rfl rfl rfl rfl ?_
  refine w_seq ?_
  refine w_region ?_
  refine b_alloc (cs := evt0.cells none 0) rfl ze_52 rfl H (fun b2 w H => ?_)
  refine l_pint rfl rfl ?_
  refine l_nil ?_
  refine w_seq ?_
  refine w_region ?_
  refine l_pslice rfl rfl ?_
  refine l_v rfl (q_build (cs := [.slice aa bs.length cc, I 0, I 0]) rfl sp_189 rfl) ?_
  refine b_box (cs := [.slice aa bs.length cc, I 0, I 0]) rfl rfl rfl H (fun rb w H => ?_)
  have H : St W w (refL rb aa cc bs ⟨0, 0⟩ (blk b2 (evt0.cells none 0) 52 :: F)) := H
  refine l_pptr rfl rfl ?_
  refine l_nil ?_
  refine w_seq ?_
  refine w_region ?_
  refine l_pptr rfl rfl ?_
  refine b_call rfl cb_102 rfl (rInt_ok (mo := maxI) H (hr.up 1 rfl) hcp (rs0 bs) hb (by decide)) (fun v w hv => ?_)
  obtain ⟨rfl, H⟩ := hv
  refine l_pint rfl rfl ?_
  refine l_nil ?_
  refine w_seq ?_
  refine w_seq ?_
  refine w_region ?_
  refine l_pptr rfl rfl ?_
  refine l_pptr rfl rfl ?_
  refine l_v rfl (q_fieldAddr rfl fo189_2 rfl) ?_
  refine l_v rfl (q_load1 rfl c1_3 rfl (by first | exact H.cell 0 rfl rfl | exact H.cell 1 rfl rfl | exact H.cell 2 rfl rfl | exact H.cell 3 rfl rfl)) ?_
  refine l_pbool rfl rfl ?_
  refine l_nil ?_
  refine w_cond rfl (fun c1 => ?_) (fun c1 => ?_)
  · try simp only [sH] at c1
    refine w_seq ?_
    refine w_drawT [] [4] [(0, 0), (1, 0), (2, 0), (3, 0), (4, 1), (5, 2), (6, 0)] mixed (by kernel_rfl) (fun _ _ _ h => fin_panic h) H (fun H => ?_)
    refine r_w rfl rfl (fun w => q_build (cs := evt0.cells none 0) rfl sp_52 rfl) ?_
    refine r_pptr rfl rfl rfl ?_
    refine r_pptr rfl rfl rfl ?_
    refine r_w rfl rfl (fun w => q_fieldAddr rfl fo189_2 rfl) ?_
    refine r_v rfl rfl (fun w hS => q_load1 rfl c1_3 rfl (by first | exact hS.cell 0 rfl rfl | exact hS.cell 1 rfl rfl | exact hS.cell 2 rfl rfl | exact hS.cell 3 rfl rfl)) ?_
    refine r_do rfl ?_
    first
      | refine b_store rfl sz_52 rfl rfl rfl rfl rfl H 3 rfl rfl (putL_all rfl) (fun w H => ?_)
      | refine b_store rfl sz_52 rfl rfl rfl rfl rfl H 1 rfl rfl (putL_all rfl) (fun w H => ?_)
    refine l_nil ⟨fun _ _ => (by first | exact H | exact H.drop1 | exact H.drop1.drop1 | exact H.drop1.drop1.drop1), ?_⟩
    refine r_pint rfl rfl rfl ?_
    refine r_nil ?_
    refine w_ret ?_
    refine finc2 rfl ag_52 rfl (by first | exact H.cells 0 rfl | exact H.cells 1 rfl | exact H.cells 2 rfl | exact H.cells 3 rfl) rfl ?_
    have hp : getEv bs = (evt0, (rInt bs maxI ⟨0, 0⟩).2.err) := by unfold getEv; rw [if_pos (hat.1 (by omega)), rEnd_err (by omega)]
    rw [hp]
    exact ⟨none, 0, rfl, St.newF (T := 5) (sz := 1) (H.drop1.drop1)⟩
  try simp only [sH] at c1
  refine w_skip ?_
  refine w_seq ?_
  refine w_region ?_
  refine l_pint rfl rfl ?_
  refine b_call rfl cb_32 rfl (Uses_ok ((rInt bs maxI ⟨0, 0⟩).1 : Int)) (fun v w hv => ?_)
  obtain ⟨rfl, rfl⟩ := hv
  refine l_pstr rfl rfl ?_
  refine l_nil ?_
  refine w_seq ?_
  refine w_seq ?_
  refine w_region ?_
  refine l_pstr rfl rfl ?_
  refine l_v rfl (q_lenStr rfl st_9 rfl) ?_
  refine l_pbool rfl rfl ?_
  refine l_nil ?_
  refine w_cond rfl (fun c2 => ?_) (fun c2 => ?_)
  · try simp only [sH] at c2
    have hu0 := usesS_nil (k := ((rInt bs maxI ⟨0, 0⟩).1 : Int)) (by omega)
    refine w_seq ?_
    refine w_region ?_
    refine l_v rfl (q_build (cs := evt0.cells none 0) rfl sp_52 rfl) ?_
    first
      | refine b_store rfl sz_52 rfl rfl rfl rfl rfl H 3 rfl rfl (putL_all rfl) (fun w H => ?_)
      | refine b_store rfl sz_52 rfl rfl rfl rfl rfl H 1 rfl rfl (putL_all rfl) (fun w H => ?_)
    refine l_pint rfl rfl ?_
    refine l_nil ?_
    refine w_ret ?_
    refine finc2 rfl ag_52 rfl (by first | exact H.cells 0 rfl | exact H.cells 1 rfl | exact H.cells 2 rfl | exact H.cells 3 rfl) rfl ?_
    have hp : getEv bs = (evt0, 150) := by unfold getEv; rw [if_neg (fun h => by have := hat.2 h; omega), if_pos (by omega)]
    rw [hp]
    exact ⟨none, 0, rfl, St.newF (T := 5) (sz := 1) (H.drop1.drop1)⟩
  try simp only [sH] at c2
  obtain ⟨hu0, hul⟩ := usesS_len (k := ((rInt bs maxI ⟨0, 0⟩).1 : Int)) (by omega)
  have hgk := gkind_of hu0
  refine w_skip ?_
  refine w_seq ?_
  refine w_region ?_
  refine b_make rfl el_58 ze_3 rfl (m := 6) rfl rfl ⟨by omega, by simp only [maxLen]; omega⟩ H (fun b34 w H => ?_)
  refine l_pslice rfl rfl ?_
  refine l_nil ?_
  refine w_seq ?_
  refine w_seq ?_
  refine w_region ?_
  refine l_pint rfl rfl ?_
  refine l_nil ?_
  refine w_block ?_
  refine w_loopG (G := Nat × Evt × Rs) [8, 35, 36, 37, 38, 39, 40, 41, 42, 43, 44, 45, 46, 47] (fun ⟨i, e, s⟩ => [(8, .int .i64 ((i : Nat) : Int))]) (fun m ⟨i, e, s⟩ w => m + i = 6 ∧ (e, s) = ggo bs (usesN (gkind bs)) ({ evt0 with k := gkind bs }, (rInt bs maxI ⟨0, 0⟩).2) i ∧ RsOk2 bs s ∧ St W w (refL rb aa cc bs s (blk0 b34 (numV e) 3 :: blk b2 (evt0.cells none 0) 52 :: F))) (fun _ => rfl) ?_ ?_
  · exact ⟨6, (0, { evt0 with k := gkind bs }, (rInt bs maxI ⟨0, 0⟩).2), ⟨rfl, trivial⟩, rfl, rfl, hs0, St.pick [1, 0, 2] (pre := [_, _, _]) rfl H rfl⟩
  rintro m ⟨i, e, s⟩ ρ1 w ⟨hmi, hes, hso, H⟩
  refine w_seq ?_
  refine w_seq ?_
  refine w_region ?_
  refine l_pint rfl rfl ?_
  refine l_pbool rfl rfl ?_
  refine l_nil ?_
  refine w_cond rfl (fun c3 => ?_) (fun c3 => ?_)
  · try simp only [sH] at c3
    have hi6 : i < 6 := by omega
    refine w_skip ?_
    refine w_seq ?_
    refine w_block ?_
    refine w_seq ?_
    refine w_region ?_
    refine l_pstr rfl rfl ?_
    refine l_pint rfl rfl ?_
    refine l_v rfl (q_indexStr rfl st_9 rfl rfl ⟨by omega, usesS_at (i := i) hu0 (by omega)⟩) ?_
    refine l_pbool rfl rfl ?_
    refine l_nil ?_
    refine w_cond rfl (fun c4 => ?_) (fun c4 => ?_)
    · try simp only [sH] at c4
      have hb1 := usesS_hit hu0 (i := i) (by omega) c4
      rw [hug] at hb1
      refine w_region ?_
      refine l_pslice rfl rfl ?_
      refine l_pint rfl rfl ?_
      refine l_pptr rfl rfl ?_
      refine b_call rfl cb_102 rfl (rInt_ok (mo := maxI) H (hr.up 2 rfl) hcp hso hb (by decide)) (fun v w hv => ?_)
      obtain ⟨rfl, H⟩ := hv
      refine l_v rfl (q_indexSliceN rfl el_58 rfl rfl hi6) ?_
      refine b_store0 (vs := [I ((rInt bs maxI s).1 : Int)]) rfl sz_3 rfl rfl rfl rfl rfl H 1 rfl (by simp [numV]; omega) (fun w H => ?_)
      rw [numV_put e hi6] at H
      refine l_nil ?_
      refine w_region ?_
      refine l_pint rfl rfl ?_
      first | refine l_v rfl (q_add rfl rfl rfl (by simp only [inK]; omega)) ?_ | refine l_pint rfl rfl ?_
      refine l_pint rfl rfl ?_
      refine l_nil ?_
      refine ⟨by repeat' first | exact aM | exact aR | refine aI rfl ?_ | refine aU rfl ?_ | refine aL rfl ?_, ?_⟩
      first
        | exact ⟨m - 1, (i + 1, e.put i (rInt bs maxI s).1, (rInt bs maxI s).2), by omega, ⟨by exact congrArg (Value.int IntKind.i64) (Int.natCast_succ i).symm, trivial⟩, by omega, by rw [ggo, ← hes, gnum, if_pos hb1], rInt_ok2 hso, H⟩
        | exact ⟨m - 1, (i + 1, e, s), by omega, ⟨by exact congrArg (Value.int IntKind.i64) (Int.natCast_succ i).symm, trivial⟩, by omega, by rw [ggo, ← hes, gnum, hb0, if_neg (by decide)], hso, H⟩
    try simp only [sH] at c4
    have hb0 := usesS_mis hu0 (i := i) (by omega) c4
    rw [hug] at hb0
    refine w_skip ?_
    refine w_region ?_
    refine l_pint rfl rfl ?_
    first | refine l_v rfl (q_add rfl rfl rfl (by simp only [inK]; omega)) ?_ | refine l_pint rfl rfl ?_
    refine l_pint rfl rfl ?_
    refine l_nil ?_
    refine ⟨by repeat' first | exact aM | exact aR | refine aI rfl ?_ | refine aU rfl ?_ | refine aL rfl ?_, ?_⟩
    first
      | exact ⟨m - 1, (i + 1, e.put i (rInt bs maxI s).1, (rInt bs maxI s).2), by omega, ⟨by exact congrArg (Value.int IntKind.i64) (Int.natCast_succ i).symm, trivial⟩, by omega, by rw [ggo, ← hes, gnum, if_pos hb1], rInt_ok2 hso, H⟩
      | exact ⟨m - 1, (i + 1, e, s), by omega, ⟨by exact congrArg (Value.int IntKind.i64) (Int.natCast_succ i).symm, trivial⟩, by omega, by rw [ggo, ← hes, gnum, hb0, if_neg (by decide)], hso, H⟩
  try simp only [sH] at c3
  obtain rfl : i = 6 := by omega
  have hfr : Fresh (gkind bs) e := by have := congrArg (fun z : Evt × Rs => z.1) hes; exact (show e = _ from this) ▸ ggo_fresh ⟨rfl, rfl, rfl, rfl, rfl, rfl, rfl⟩ 6
  refine w_exit ?_
  refine w_seq ?_
  refine w_drawT [21] [3, 6, 9, 12, 15, 18] [(0, 0), (1, 0), (2, 0), (3, 1), (4, 0), (5, 0), (6, 1), (7, 0), (8, 0), (9, 1), (10, 0), (11, 0), (12, 1), (13, 0), (14, 0), (15, 1), (16, 0), (17, 0), (18, 1), (19, 0), (20, 2), (21, 2)] mixed (by kernel_rfl) (fun _ _ _ h => fin_panic h) H (fun H => ?_)
  refine r_pint rfl rfl rfl ?_
  refine r_pslice rfl rfl rfl ?_
  first | refine r_w rfl rfl (fun w => q_indexSliceN rfl el_58 rfl rfl (by omega)) ?_ | refine r_w rfl rfl (fun w => q_indexSlice rfl el_58 rfl rfl ⟨by omega, by omega⟩) ?_
  refine r_v rfl rfl (fun w hS => q_load1 rfl c1_3 rfl (hS.cell0 1 rfl rfl)) ?_
  refine r_pslice rfl rfl rfl ?_
  first | refine r_w rfl rfl (fun w => q_indexSliceN rfl el_58 rfl rfl (by omega)) ?_ | refine r_w rfl rfl (fun w => q_indexSlice rfl el_58 rfl rfl ⟨by omega, by omega⟩) ?_
  refine r_v rfl rfl (fun w hS => q_load1 rfl c1_3 rfl (hS.cell0 1 rfl rfl)) ?_
  refine r_pslice rfl rfl rfl ?_
  first | refine r_w rfl rfl (fun w => q_indexSliceN rfl el_58 rfl rfl (by omega)) ?_ | refine r_w rfl rfl (fun w => q_indexSlice rfl el_58 rfl rfl ⟨by omega, by omega⟩) ?_
  refine r_v rfl rfl (fun w hS => q_load1 rfl c1_3 rfl (hS.cell0 1 rfl rfl)) ?_
  refine r_pslice rfl rfl rfl ?_
  first | refine r_w rfl rfl (fun w => q_indexSliceN rfl el_58 rfl rfl (by omega)) ?_ | refine r_w rfl rfl (fun w => q_indexSlice rfl el_58 rfl rfl ⟨by omega, by omega⟩) ?_
  refine r_v rfl rfl (fun w hS => q_load1 rfl c1_3 rfl (hS.cell0 1 rfl rfl)) ?_
  refine r_pslice rfl rfl rfl ?_
  first | refine r_w rfl rfl (fun w => q_indexSliceN rfl el_58 rfl rfl (by omega)) ?_ | refine r_w rfl rfl (fun w => q_indexSlice rfl el_58 rfl rfl ⟨by omega, by omega⟩) ?_
  refine r_v rfl rfl (fun w hS => q_load1 rfl c1_3 rfl (hS.cell0 1 rfl rfl)) ?_
  refine r_pslice rfl rfl rfl ?_
  first | refine r_w rfl rfl (fun w => q_indexSliceN rfl el_58 rfl rfl (by omega)) ?_ | refine r_w rfl rfl (fun w => q_indexSlice rfl el_58 rfl rfl ⟨by omega, by omega⟩) ?_
  refine r_v rfl rfl (fun w hS => q_load1 rfl c1_3 rfl (hS.cell0 1 rfl rfl)) ?_
  refine r_w rfl rfl (fun w => q_build (cs := [I ((rInt bs maxI ⟨0, 0⟩).1 : Int), I e.nd, I e.cl, I e.ix, I e.pl, I e.ct, I e.cu, N64 0, N64 0, I 0, I 0, .string ⟨#[]⟩, .slice none 0 0]) rfl sp_52 rfl) ?_
  refine r_do rfl ?_
  refine b_alloc (cs := evt0.cells none 0) rfl ze_52 rfl H (fun b9 w H => ?_)
  refine l_nil ⟨fun _ _ => (by first | exact H | exact H.drop1 | exact H.drop1.drop1 | exact H.drop1.drop1.drop1), ?_⟩
  refine r_do rfl ?_
  refine b_store rfl sz_52 rfl rfl rfl rfl rfl H 0 rfl rfl (putL_all rfl) (fun w H => ?_)
  refine l_nil ⟨(fun h => nomatch h), ?_⟩
  refine r_nil ?_
  have H : St W w (grfL rb b9 b2 aa cc bs (e) (s) (none) 0 F) := by
    rw [← hgk, ← hfr.cells] at H
    unfold grfL
    rw [hfr.2.2.2.2.2.2]
    exact St.pick [2, 0, 1, 4] (pre := [_, _, _, _, _]) rfl (St.newF (T := 5) (sz := 1) H) rfl
  refine w_cutG (G := Evt × Rs) [10, 11, 68, 69, 70, 71, 72, 73, 74, 75, 76, 77, 78] (fun ⟨e, s⟩ => []) (fun ⟨e, s⟩ w => (e, s) = gdr bs (usesN (gkind bs)) (ggo bs (usesN (gkind bs)) ({ evt0 with k := gkind bs }, (rInt bs maxI ⟨0, 0⟩).2) 6) ∧ e.bs = [] ∧ RsOk2 bs s ∧ St W w (grfL rb b9 b2 aa cc bs (e) (s) (none) 0 F)) (fun _ => rfl) ?_ ?_
  · refine w_seq ?_
    refine w_region ?_
    refine l_pstr rfl rfl ?_
    refine l_v rfl (q_indexStr rfl st_9 rfl rfl ⟨by omega, usesS_at (i := 6) hu0 (by omega)⟩) ?_
    refine l_pbool rfl rfl ?_
    refine l_nil ?_
    refine w_cond rfl (fun c5 => ?_) (fun c5 => ?_)
    · try simp only [sH] at c5
      have hb6 := usesS_hit hu0 (i := 6) (by omega) c5
      rw [hug] at hb6
      refine w_seq ?_
      refine w_region ?_
      refine l_pptr rfl rfl ?_
      refine b_call rfl cb_107 rfl (rNumber_ok H (hr.up 3 rfl) hcp hso hb) (fun v w hv => ?_)
      obtain ⟨rfl, H⟩ := hv
      refine l_pint rfl rfl ?_
      refine l_nil ?_
      refine w_seq ?_
      refine w_region ?_
      refine l_pptr rfl rfl ?_
      refine b_call rfl cb_107 rfl (rNumber_ok H (hr.up 3 rfl) hcp (rNum_ok2 hso) hb) (fun v w hv => ?_)
      obtain ⟨rfl, H⟩ := hv
      refine l_pint rfl rfl ?_
      refine l_nil ?_
      refine w_region ?_
      refine l_pint rfl rfl ?_
      refine l_pint rfl rfl ?_
      refine l_v rfl (q_build (cs := [.int _ _, .int _ _]) rfl sp_47 rfl) ?_
      refine l_v rfl (q_fieldAddr rfl fo52_7 rfl) ?_
      refine b_store (cs' := ({ e with hi := (rNum bs s).1, lo := (rNum bs (rNum bs s).2).1 } : Evt).cells none 0) rfl sz_47 rfl rfl rfl rfl rfl H 2 rfl rfl rfl (fun w H => ?_)
      refine l_nil ?_
      refine ⟨by repeat' first | exact aM | exact aR | refine aI rfl ?_ | refine aU rfl ?_ | refine aL rfl ?_, ?_⟩
      exact ⟨({ e with hi := (rNum bs s).1, lo := (rNum bs (rNum bs s).2).1 }, _), trivial, by rw [← hes, gdr, if_pos hb6], hfr.2.2.2.2.2.2, rNum_ok2 (rNum_ok2 hso), H⟩
    try simp only [sH] at c5
    have hb6 := usesS_mis hu0 (i := 6) (by omega) c5
    rw [hug] at hb6
    refine w_skip ?_
    refine ⟨by repeat' first | exact aM | exact aR | refine aI rfl ?_ | refine aU rfl ?_ | refine aL rfl ?_, ?_⟩
    exact ⟨(e, s), trivial, by rw [← hes, gdr, hb6, if_neg (by decide)], hfr.2.2.2.2.2.2, hso, H⟩
  rintro ⟨e, s⟩ ρ1 w ⟨hes, heb, hso, H⟩
  refine w_cutG (G := Evt × Rs) [79, 80, 81, 82, 83, 84, 85, 86, 87, 88, 89, 90, 91, 92, 93] (fun ⟨e, s⟩ => []) (fun ⟨e, s⟩ w => (e, s) = gop bs (usesN (gkind bs)) (gdr bs (usesN (gkind bs)) (ggo bs (usesN (gkind bs)) ({ evt0 with k := gkind bs }, (rInt bs maxI ⟨0, 0⟩).2) 6)) ∧ e.bs = [] ∧ RsOk2 bs s ∧ St W w (grfL rb b9 b2 aa cc bs (e) (s) (none) 0 F)) (fun _ => rfl) ?_ ?_
  · refine w_seq ?_
    refine w_region ?_
    refine l_pstr rfl rfl ?_
    refine l_v rfl (q_indexStr rfl st_9 rfl rfl ⟨by omega, usesS_at (i := 7) hu0 (by omega)⟩) ?_
    refine l_pbool rfl rfl ?_
    refine l_nil ?_
    refine w_cond rfl (fun c6 => ?_) (fun c6 => ?_)
    · try simp only [sH] at c6
      have hb7 := usesS_hit hu0 (i := 7) (by omega) c6
      rw [hug] at hb7
      refine w_seq ?_
      refine w_region ?_
      refine l_pptr rfl rfl ?_
      refine b_call rfl cb_102 rfl (rInt_ok (mo := maxI) H (hr.up 3 rfl) hcp hso hb (by decide)) (fun v w hv => ?_)
      obtain ⟨rfl, H⟩ := hv
      refine l_v rfl (q_fieldAddr rfl fo52_8 rfl) ?_
      refine l_v rfl (q_fieldAddr rfl fo49_0 rfl) ?_
      refine b_store (cs' := ({ e with ok := (rInt bs maxI s).1 } : Evt).cells none 0) rfl sz_3 rfl rfl rfl rfl rfl H 2 rfl rfl rfl (fun w H => ?_)
      refine l_nil ?_
      refine w_seq ?_
      refine w_region ?_
      refine l_pptr rfl rfl ?_
      refine b_call rfl cb_102 rfl (rInt_ok (mo := maxI) H (hr.up 3 rfl) hcp (rInt_ok2 hso) hb (by decide)) (fun v w hv => ?_)
      obtain ⟨rfl, H⟩ := hv
      refine l_v rfl (q_fieldAddr rfl fo52_8 rfl) ?_
      refine l_v rfl (q_fieldAddr rfl fo49_1 rfl) ?_
      refine b_store (cs' := ({ e with ok := (rInt bs maxI s).1, os := (rInt bs maxI (rInt bs maxI s).2).1 } : Evt).cells none 0) rfl sz_3 rfl rfl rfl rfl rfl H 2 rfl rfl rfl (fun w H => ?_)
      refine l_nil ?_
      refine w_region ?_
      refine l_pptr rfl rfl ?_
      refine b_call rfl cb_104 rfl (rText_ok (mo := 64) H (hr.up 3 rfl) hcp (rInt_ok2 (rInt_ok2 hso)) hb (by decide)) (fun v w hv => ?_)
      obtain ⟨rfl, H⟩ := hv
      refine l_v rfl (q_fieldAddr rfl fo52_8 rfl) ?_
      refine l_v rfl (q_fieldAddr rfl fo49_2 rfl) ?_
      refine b_store (cs' := ({ e with ok := (rInt bs maxI s).1, os := (rInt bs maxI (rInt bs maxI s).2).1, ov := ⟨(rText bs 64 (rInt bs maxI (rInt bs maxI s).2).2).1.toArray⟩ } : Evt).cells none 0) rfl sz_9 rfl rfl rfl rfl rfl H 2 rfl rfl rfl (fun w H => ?_)
      refine l_nil ?_
      refine ⟨by repeat' first | exact aM | exact aR | refine aI rfl ?_ | refine aU rfl ?_ | refine aL rfl ?_, ?_⟩
      exact ⟨({ e with ok := (rInt bs maxI s).1, os := (rInt bs maxI (rInt bs maxI s).2).1, ov := ⟨(rText bs 64 (rInt bs maxI (rInt bs maxI s).2).2).1.toArray⟩ }, _), trivial, by rw [← hes, gop, if_pos hb7], heb, rText_ok2 (rInt_ok2 (rInt_ok2 hso)), H⟩
    try simp only [sH] at c6
    have hb7 := usesS_mis hu0 (i := 7) (by omega) c6
    rw [hug] at hb7
    refine w_skip ?_
    refine ⟨by repeat' first | exact aM | exact aR | refine aI rfl ?_ | refine aU rfl ?_ | refine aL rfl ?_, ?_⟩
    exact ⟨(e, s), trivial, by rw [← hes, gop, hb7, if_neg (by decide)], heb, hso, H⟩
  rintro ⟨e, s⟩ ρ1 w ⟨hes, heb, hso, H⟩
  refine w_cutG (G := Evt × Rs × Option Addr × Nat) [94, 95, 96, 97, 98, 99, 100] (fun ⟨e, s, a, c⟩ => []) (fun ⟨e, s, a, c⟩ w => (e, s) = gall bs ∧ RsOk2 bs s ∧ St W w (grfL rb b9 b2 aa cc bs (e) (s) (a) c F)) (fun _ => rfl) ?_ ?_
  · refine w_seq ?_
    refine w_region ?_
    refine l_pstr rfl rfl ?_
    refine l_v rfl (q_indexStr rfl st_9 rfl rfl ⟨by omega, usesS_at (i := 8) hu0 (by omega)⟩) ?_
    refine l_pbool rfl rfl ?_
    refine l_nil ?_
    refine w_cond rfl (fun c7 => ?_) (fun c7 => ?_)
    · try simp only [sH] at c7
      have hb8 := usesS_hit hu0 (i := 8) (by omega) c7
      rw [hug] at hb8
      have htl : (⟨(rText bs 16384 s).1.toArray⟩ : ByteArray).size ≤ maxLen := by have := (rText_len (b := bs) (m := 16384) (s := s)).1; show (rText bs 16384 s).1.length ≤ _; simp only [maxLen]; omega
      refine w_region ?_
      refine l_pptr rfl rfl ?_
      refine b_call rfl cb_104 rfl (rText_ok (mo := 16384) H (hr.up 3 rfl) hcp hso hb (by decide)) (fun v w hv => ?_)
      obtain ⟨rfl, H⟩ := hv
      refine b_strBytesF rfl st_9 by_50 el_50 rfl htl H (fun b81 c81 w H => ?_)
      refine l_v rfl (q_fieldAddr rfl fo52_9 rfl) ?_
      refine b_store (cs' := ({ e with bs := (rText bs 16384 s).1 } : Evt).cells (some ⟨b81, 0, none⟩) c81) rfl sz_50 rfl rfl rfl rfl rfl H 3 rfl rfl rfl (fun w H => ?_)
      refine l_nil ?_
      refine ⟨by repeat' first | exact aM | exact aR | refine aI rfl ?_ | refine aU rfl ?_ | refine aL rfl ?_, ?_⟩
      exact ⟨({ e with bs := (rText bs 16384 s).1 }, _, some ⟨b81, 0, none⟩, c81), trivial, by rw [gall, ← hes, gby, if_pos hb8], rText_ok2 hso, St.pick [1, 0, 3, 4] (pre := [_, _, _, _, _]) rfl H rfl⟩
    try simp only [sH] at c7
    have hb8 := usesS_mis hu0 (i := 8) (by omega) c7
    rw [hug] at hb8
    refine w_skip ?_
    refine ⟨by repeat' first | exact aM | exact aR | refine aI rfl ?_ | refine aU rfl ?_ | refine aL rfl ?_, ?_⟩
    exact ⟨(e, s, none, 0), trivial, by rw [gall, ← hes, gby, hb8, if_neg (by decide)], hso, by unfold grfL at H ⊢; rw [heb] at H ⊢; exact H⟩
  rintro ⟨e, s, a, c⟩ ρ1 w ⟨hes, hso, H⟩
  refine w_seq ?_
  refine w_region ?_
  refine l_pptr rfl rfl ?_
  refine b_call rfl cb_103 rfl (rEnd_ok H (hr.up 3 rfl) hcp hso hb) (fun v w hv => ?_)
  obtain ⟨rfl, H⟩ := hv
  refine l_pint rfl rfl ?_
  refine l_nil ?_
  refine w_seq ?_
  refine w_seq ?_
  refine w_region ?_
  refine l_pint rfl rfl ?_
  refine l_pbool rfl rfl ?_
  refine l_nil ?_
  refine w_cond rfl (fun c8 => ?_) (fun c8 => ?_)
  · try simp only [sH] at c8
    refine w_seq ?_
    refine w_region ?_
    refine l_v rfl (q_build (cs := evt0.cells none 0) rfl sp_52 rfl) ?_
    refine l_pint rfl rfl ?_
    first
      | refine b_store rfl sz_52 rfl rfl rfl rfl rfl H 3 rfl rfl (putL_all rfl) (fun w H => ?_)
      | refine b_store rfl sz_52 rfl rfl rfl rfl rfl H 1 rfl rfl (putL_all rfl) (fun w H => ?_)
    refine l_pint rfl rfl ?_
    refine l_nil ?_
    refine w_ret ?_
    refine finc2 rfl ag_52 rfl (by first | exact H.cells 0 rfl | exact H.cells 1 rfl | exact H.cells 2 rfl | exact H.cells 3 rfl) rfl ?_
    have h2 : (gall bs).2 = s := by rw [← hes]
    have hp : getEv bs = (evt0, rEnd bs s) := by unfold getEv; rw [if_neg (fun h => by have := hat.2 h; omega), if_neg (by omega), h2, if_pos (by omega)]
    rw [hp]
    exact ⟨none, 0, rfl, St.newF (T := 5) (sz := 1) (H.drop1.drop1.drop1.drop1)⟩
  try simp only [sH] at c8
  refine w_skip ?_
  refine w_seq ?_
  refine w_region ?_
  refine l_v rfl (q_loadN (vs := e.cells a c) rfl ag_52 rfl rfl (H.cells 2 rfl)) ?_
  first
    | refine b_store rfl sz_52 rfl rfl rfl rfl rfl H 3 rfl rfl (putL_all rfl) (fun w H => ?_)
    | refine b_store rfl sz_52 rfl rfl rfl rfl rfl H 1 rfl rfl (putL_all rfl) (fun w H => ?_)
  refine l_pint rfl rfl ?_
  refine l_nil ?_
  refine w_ret ?_
  refine finc2 rfl ag_52 rfl (by first | exact H.cells 0 rfl | exact H.cells 1 rfl | exact H.cells 2 rfl | exact H.cells 3 rfl) rfl ?_
  have h2 : (gall bs).2 = s := by rw [← hes]
  have h1 : (gall bs).1 = e := by rw [← hes]
  have hp : getEv bs = (e, 0) := by unfold getEv; rw [if_neg (fun h => by have := hat.2 h; omega), if_neg (by omega), h2, h1, if_neg (by omega)]
  rw [hp]
  exact ⟨a, c, rfl, (H.drop1.erase 1).erase 1⟩
end Go.Proofs.YtfpmnhmdphaceaaGreatDoor
