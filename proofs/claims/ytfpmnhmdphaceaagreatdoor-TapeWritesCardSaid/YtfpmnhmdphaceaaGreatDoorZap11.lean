/- A part of this claim: laws of the tape's functions and of plain lists; no conditions beyond those that the theorems name. -/
import Derived.Test.YtfpmnhmdphaceaaGreatDoorZap10
namespace Go.Proofs.YtfpmnhmdphaceaaGreatDoor
open Go.EW
attribute [local irreducible] EW.W EW.L EW.fin block8 outB shaL
set_option linter.unusedVariables false
set_option linter.unusedSimpArgs false
theorem negN_all {e : Evt} {u : Nat} (h : ∀ i, i < 6 → bitN u i = true → ¬ e.num i < 0) : ∀ i, i ≤ 6 → negN e u i = false
  | 0, _ => rfl
  | i + 1, hi => negN_step (negN_all h i (by omega)) (h i (by omega))
theorem used_neg {e : Evt} {i : Nat} (hi : i < 6) (h : (usedE e).num i < 0) : negN e (usesN e.k) 6 = true := by
  rw [(used_spec e).2.2.1 i hi] at h
  split at h
  · rename_i hb; exact negN_hit hi hb h
  omega
theorem used_pos {e : Evt} {i : Nat} (hi : i < 6) (h : ¬ (usedE e).num i < 0) (hb : bitN (usesN e.k) i = true) : ¬ e.num i < 0 := by
  rw [(used_spec e).2.2.1 i hi, if_pos hb] at h; exact h
theorem used_nums {e : Evt} (h0 : ¬ (usedE e).nd < 0) (h1 : ¬ (usedE e).cl < 0) (h2 : ¬ (usedE e).ix < 0) (h3 : ¬ (usedE e).pl < 0) (h4 : ¬ (usedE e).ct < 0) (h5 : ¬ (usedE e).cu < 0) : negN e (usesN e.k) 6 = false := by
  refine negN_all (fun i hi hb => used_pos hi ?_ hb) 6 (Nat.le_refl _)
  match i, hi with
  | 0, _ => exact h0
  | 1, _ => exact h1
  | 2, _ => exact h2
  | 3, _ => exact h3
  | 4, _ => exact h4
  | 5, _ => exact h5
theorem used_op {e : Evt} : ((usedE e).ok < 0 → bitN (usesN e.k) 7 = true ∧ (e.ok < 0 ∨ e.os < 0)) ∧ ((usedE e).os < 0 → bitN (usesN e.k) 7 = true ∧ (e.ok < 0 ∨ e.os < 0)) ∧ (bitN (usesN e.k) 7 = true → (usedE e).ok = e.ok ∧ (usedE e).os = e.os ∧ (usedE e).ov = e.ov) := by
  obtain ⟨_, _, _, _, _, h1, h2, h3, _⟩ := used_spec e
  refine ⟨fun h => ?_, fun h => ?_, fun h => ?_⟩
  · rw [h1] at h
    split at h
    · rename_i hb; exact ⟨hb, .inl h⟩
    omega
  · rw [h2] at h
    split at h
    · rename_i hb; exact ⟨hb, .inr h⟩
    omega
  rw [h1, h2, h3, if_pos h, if_pos h, if_pos h]; exact ⟨rfl, rfl, rfl⟩
theorem used_long {e : Evt} : (64 < (usedE e).ov.size → bitN (usesN e.k) 7 = true ∧ 64 < e.ov.size) ∧ (16384 < (usedE e).bs.length → bitN (usesN e.k) 8 = true ∧ 16384 < e.bs.length) ∧ (bitN (usesN e.k) 8 = true → (usedE e).bs = e.bs) := by
  obtain ⟨_, _, _, _, _, _, _, h3, h4⟩ := used_spec e
  refine ⟨fun h => ?_, fun h => ?_, fun h => ?_⟩
  · rw [h3] at h
    split at h
    · rename_i hb; exact ⟨hb, h⟩
    exact absurd h (by decide)
  · rw [h4] at h
    split at h
    · rename_i hb; exact ⟨hb, h⟩
    simp at h
  rw [h4, if_pos h]
theorem numV_at (x : Evt) {i : Nat} (hi : i < 6) : (numV x)[i]? = some (I (x.num i)) := by
  match i, hi with
  | 0, _ => rfl
  | 1, _ => rfl
  | 2, _ => rfl
  | 3, _ => rfl
  | 4, _ => rfl
  | 5, _ => rfl
theorem used_draw {e : Evt} (h : bitN (usesN e.k) 6 = true) : (usedE e).hi = e.hi ∧ (usedE e).lo = e.lo := by
  obtain ⟨_, _, _, h1, h2, _⟩ := used_spec e
  rw [h1, h2, if_pos h, if_pos h]; exact ⟨rfl, rfl⟩
set_option maxRecDepth 8000 in
set_option maxHeartbeats 1000000 in
theorem rPutEvent_ok {W w : World} {F : List Seg} (H : St W w F) (e : Evt) (he : EvOk e) {a : Option Addr} {c : Nat} (hr : RdIn W F a (e.bs.map B)) :
    Ok Tryz.prog 11 [.agg (e.cells a c).toArray].toArray w (fun r w' => ∃ a' c', r = .tuple #[.slice a' (putEv e).1.length c', .int .i64 ((putEv e).2 : Int)] ∧ St W w' (row 5 1 a' (putEv e).1.length c' ((putEv e).1.map B) :: F)) := by
  have hsz : (⟨(usesS e.k).toArray⟩ : ByteArray).size = (usesS e.k).length := rfl
  have hpl := pgo_len e (usesN e.k) 6
  have hdl := pdr_len e (usesN e.k)
  have hf1 := formL_len e.hi
  have hf2 := formL_len e.ok.toNat
  have hf3 := formL_len e.os.toNat
  have hf4 := formL_len e.ov.size
  have hf5 := formL_len e.lo
  have hf6 := formL_len e.bs.length
  refine enter (n := 149) (rs := #[.tmp 2, .tmp 3]) Tryz.func11 rfl rfl rfl rfl ?_
  refine w_seq ?_
  refine w_region ?_
  refine b_box (cs := e.cells a c) rfl rfl rfl H (fun b1 w H => ?_)
  refine l_pslice rfl rfl ?_
  refine l_pint rfl rfl ?_
  refine l_nil ?_
  refine w_seq ?_
  refine w_region ?_
  refine l_v rfl (q_fieldAddr rfl fo52_0 rfl) ?_
  refine l_v rfl (q_load1 rfl c1_44 rfl (by first | exact H.cell 0 rfl rfl | exact H.cell 1 rfl rfl | exact H.cell 2 rfl rfl | exact H.cell 3 rfl rfl)) ?_
  refine b_call rfl cb_32 rfl (Uses_ok e.k) (fun v w hv => ?_)
  obtain ⟨rfl, rfl⟩ := hv
  refine l_pstr rfl rfl ?_
  refine l_nil ?_
  refine w_seq ?_
  refine w_seq ?_
  refine w_region ?_
  refine l_pstr rfl rfl ?_
  refine l_v rfl (q_lenStr rfl st_9 rfl) ?_
  refine l_pbool rfl rfl ?_
  refine l_nil ?_
  refine w_cond rfl (fun c1 => ?_) (fun c1 => ?_)
  · try simp only [sH] at c1
    have hu0 := usesS_nil (k := e.k) (by omega)
    refine w_seq ?_
    refine w_region ?_
    refine l_pslice rfl rfl ?_
    refine l_pint rfl rfl ?_
    refine l_nil ?_
    refine w_ret ?_
    refine fin2 rfl rfl ?_
    have hp : putEv e = ([], 150) := by unfold putEv; rw [if_pos hu0]
    rw [hp]; exact ⟨none, 0, rfl, St.newRow (H.drop1)⟩
  try simp only [sH] at c1
  obtain ⟨hu0, hul⟩ := usesS_len (k := e.k) (by omega)
  have hk1 := uses_pos hu0
  refine w_skip ?_
  refine w_seq ?_
  refine w_region ?_
  refine l_v rfl (q_loadN (vs := e.cells a c) rfl ag_52 rfl rfl (H.cells 0 rfl)) ?_
  refine b_call rfl cb_33 rfl (Used_ok H e (hr.up 1 rfl) (by have := he.bs; omega)) (fun v w hv => ?_)
  obtain ⟨xa, xc, rfl, H⟩ := hv
  refine b_alloc (cs := evt0.cells none 0) rfl ze_52 rfl H (fun b5 w H => ?_)
  refine b_store rfl sz_52 rfl rfl rfl rfl rfl H 0 rfl rfl (putL_all rfl) (fun w H => ?_)
  have H : St W w (row 5 1 xa (usedE e).bs.length xc ((usedE e).bs.map B) :: blk b5 ((usedE e).cells xa xc) 52 :: blk b1 (e.cells a c) 52 :: F) := H.swap01
  refine l_nil ?_
  refine w_cutG (G := Unit) [2, 3, 17, 18, 19, 20, 21, 22, 23, 24, 25, 26, 27, 28, 29, 30, 31, 32, 33, 34, 35, 36, 37, 38, 39, 40, 41, 42, 43, 44, 45, 46, 47, 48, 49, 50, 51, 52, 53, 54, 55, 56] (fun ⟨⟩ => []) (fun ⟨⟩ w => negN e (usesN e.k) 6 = false ∧ (bitN (usesN e.k) 7 = true → 0 ≤ e.ok ∧ 0 ≤ e.os) ∧ St W w (row 5 1 xa (usedE e).bs.length xc ((usedE e).bs.map B) :: blk b5 ((usedE e).cells xa xc) 52 :: blk b1 (e.cells a c) 52 :: F)) (fun _ => rfl) ?_ ?_
  · refine w_seq ?_
    refine w_region ?_
    refine l_v rfl (q_fieldAddr rfl fo52_1 rfl) ?_
    refine l_v rfl (q_load1 rfl c1_3 rfl (by first | exact H.cell 0 rfl rfl | exact H.cell 1 rfl rfl | exact H.cell 2 rfl rfl | exact H.cell 3 rfl rfl)) ?_
    refine l_pbool rfl rfl ?_
    refine l_pbool rfl rfl ?_
    refine l_split 20 rfl (fun h20 => ?_) (fun h20 => ?_)
    · try simp only [sH] at h20
      refine l_no rfl ?_
      refine l_no rfl ?_
      refine l_no rfl ?_
      refine l_pickT (v := .bool _) rfl rfl rfl ?_
      refine l_pbool rfl rfl ?_
      refine l_no rfl ?_
      refine l_no rfl ?_
      refine l_no rfl ?_
      refine l_pickT (v := .bool _) rfl rfl rfl ?_
      refine l_pbool rfl rfl ?_
      refine l_no rfl ?_
      refine l_no rfl ?_
      refine l_no rfl ?_
      refine l_pickT (v := .bool _) rfl rfl rfl ?_
      refine l_pbool rfl rfl ?_
      refine l_no rfl ?_
      refine l_no rfl ?_
      refine l_no rfl ?_
      refine l_pickT (v := .bool _) rfl rfl rfl ?_
      refine l_pbool rfl rfl ?_
      refine l_no rfl ?_
      refine l_no rfl ?_
      refine l_no rfl ?_
      refine l_pickT (v := .bool _) rfl rfl rfl ?_
      refine l_pbool rfl rfl ?_
      refine l_no rfl ?_
      refine l_no rfl ?_
      refine l_no rfl ?_
      refine l_no rfl ?_
      refine l_pickT (v := .bool _) rfl rfl rfl ?_
      refine l_pbool rfl rfl ?_
      refine l_no rfl ?_
      refine l_no rfl ?_
      refine l_no rfl ?_
      refine l_no rfl ?_
      refine l_pickT (v := .bool _) rfl rfl rfl ?_
      refine l_nil ?_
      refine w_cond_t rfl ?_
      refine w_seq ?_
      refine w_region ?_
      refine l_pslice rfl rfl ?_
      refine l_pint rfl rfl ?_
      refine l_nil ?_
      refine w_ret ?_
      refine fin2 rfl rfl ?_
      have hp : putEv e = ([], 150) := by unfold putEv; rw [if_neg hu0, if_pos (used_neg (e := e) (i := 0) (by omega) h20)]
      rw [hp]; exact ⟨none, 0, rfl, St.newRow (H.drop1.drop1.drop1)⟩
    try simp only [sH] at h20
    refine l_v rfl (q_fieldAddr rfl fo52_2 rfl) ?_
    refine l_v rfl (q_load1 rfl c1_3 rfl (by first | exact H.cell 0 rfl rfl | exact H.cell 1 rfl rfl | exact H.cell 2 rfl rfl | exact H.cell 3 rfl rfl)) ?_
    refine l_pbool rfl rfl ?_
    refine l_pickF (v := .bool _) rfl rfl rfl ?_
    refine l_pbool rfl rfl ?_
    refine l_split 25 rfl (fun h25 => ?_) (fun h25 => ?_)
    · try simp only [sH] at h25
      refine l_no rfl ?_
      refine l_no rfl ?_
      refine l_no rfl ?_
      refine l_pickT (v := .bool _) rfl rfl rfl ?_
      refine l_pbool rfl rfl ?_
      refine l_no rfl ?_
      refine l_no rfl ?_
      refine l_no rfl ?_
      refine l_pickT (v := .bool _) rfl rfl rfl ?_
      refine l_pbool rfl rfl ?_
      refine l_no rfl ?_
      refine l_no rfl ?_
      refine l_no rfl ?_
      refine l_pickT (v := .bool _) rfl rfl rfl ?_
      refine l_pbool rfl rfl ?_
      refine l_no rfl ?_
      refine l_no rfl ?_
      refine l_no rfl ?_
      refine l_pickT (v := .bool _) rfl rfl rfl ?_
      refine l_pbool rfl rfl ?_
      refine l_no rfl ?_
      refine l_no rfl ?_
      refine l_no rfl ?_
      refine l_no rfl ?_
      refine l_pickT (v := .bool _) rfl rfl rfl ?_
      refine l_pbool rfl rfl ?_
      refine l_no rfl ?_
      refine l_no rfl ?_
      refine l_no rfl ?_
      refine l_no rfl ?_
      refine l_pickT (v := .bool _) rfl rfl rfl ?_
      refine l_nil ?_
      refine w_cond_t rfl ?_
      refine w_seq ?_
      refine w_region ?_
      refine l_pslice rfl rfl ?_
      refine l_pint rfl rfl ?_
      refine l_nil ?_
      refine w_ret ?_
      refine fin2 rfl rfl ?_
      have hp : putEv e = ([], 150) := by unfold putEv; rw [if_neg hu0, if_pos (used_neg (e := e) (i := 1) (by omega) h25)]
      rw [hp]; exact ⟨none, 0, rfl, St.newRow (H.drop1.drop1.drop1)⟩
    try simp only [sH] at h25
    refine l_v rfl (q_fieldAddr rfl fo52_3 rfl) ?_
    refine l_v rfl (q_load1 rfl c1_3 rfl (by first | exact H.cell 0 rfl rfl | exact H.cell 1 rfl rfl | exact H.cell 2 rfl rfl | exact H.cell 3 rfl rfl)) ?_
    refine l_pbool rfl rfl ?_
    refine l_pickF (v := .bool _) rfl rfl rfl ?_
    refine l_pbool rfl rfl ?_
    refine l_split 30 rfl (fun h30 => ?_) (fun h30 => ?_)
    · try simp only [sH] at h30
      refine l_no rfl ?_
      refine l_no rfl ?_
      refine l_no rfl ?_
      refine l_pickT (v := .bool _) rfl rfl rfl ?_
      refine l_pbool rfl rfl ?_
      refine l_no rfl ?_
      refine l_no rfl ?_
      refine l_no rfl ?_
      refine l_pickT (v := .bool _) rfl rfl rfl ?_
      refine l_pbool rfl rfl ?_
      refine l_no rfl ?_
      refine l_no rfl ?_
      refine l_no rfl ?_
      refine l_pickT (v := .bool _) rfl rfl rfl ?_
      refine l_pbool rfl rfl ?_
      refine l_no rfl ?_
      refine l_no rfl ?_
      refine l_no rfl ?_
      refine l_no rfl ?_
      refine l_pickT (v := .bool _) rfl rfl rfl ?_
      refine l_pbool rfl rfl ?_
      refine l_no rfl ?_
      refine l_no rfl ?_
      refine l_no rfl ?_
      refine l_no rfl ?_
      refine l_pickT (v := .bool _) rfl rfl rfl ?_
      refine l_nil ?_
      refine w_cond_t rfl ?_
      refine w_seq ?_
      refine w_region ?_
      refine l_pslice rfl rfl ?_
      refine l_pint rfl rfl ?_
      refine l_nil ?_
      refine w_ret ?_
      refine fin2 rfl rfl ?_
      have hp : putEv e = ([], 150) := by unfold putEv; rw [if_neg hu0, if_pos (used_neg (e := e) (i := 2) (by omega) h30)]
      rw [hp]; exact ⟨none, 0, rfl, St.newRow (H.drop1.drop1.drop1)⟩
    try simp only [sH] at h30
    refine l_v rfl (q_fieldAddr rfl fo52_4 rfl) ?_
    refine l_v rfl (q_load1 rfl c1_3 rfl (by first | exact H.cell 0 rfl rfl | exact H.cell 1 rfl rfl | exact H.cell 2 rfl rfl | exact H.cell 3 rfl rfl)) ?_
    refine l_pbool rfl rfl ?_
    refine l_pickF (v := .bool _) rfl rfl rfl ?_
    refine l_pbool rfl rfl ?_
    refine l_split 35 rfl (fun h35 => ?_) (fun h35 => ?_)
    · try simp only [sH] at h35
      refine l_no rfl ?_
      refine l_no rfl ?_
      refine l_no rfl ?_
      refine l_pickT (v := .bool _) rfl rfl rfl ?_
      refine l_pbool rfl rfl ?_
      refine l_no rfl ?_
      refine l_no rfl ?_
      refine l_no rfl ?_
      refine l_pickT (v := .bool _) rfl rfl rfl ?_
      refine l_pbool rfl rfl ?_
      refine l_no rfl ?_
      refine l_no rfl ?_
      refine l_no rfl ?_
      refine l_no rfl ?_
      refine l_pickT (v := .bool _) rfl rfl rfl ?_
      refine l_pbool rfl rfl ?_
      refine l_no rfl ?_
      refine l_no rfl ?_
      refine l_no rfl ?_
      refine l_no rfl ?_
      refine l_pickT (v := .bool _) rfl rfl rfl ?_
      refine l_nil ?_
      refine w_cond_t rfl ?_
      refine w_seq ?_
      refine w_region ?_
      refine l_pslice rfl rfl ?_
      refine l_pint rfl rfl ?_
      refine l_nil ?_
      refine w_ret ?_
      refine fin2 rfl rfl ?_
      have hp : putEv e = ([], 150) := by unfold putEv; rw [if_neg hu0, if_pos (used_neg (e := e) (i := 3) (by omega) h35)]
      rw [hp]; exact ⟨none, 0, rfl, St.newRow (H.drop1.drop1.drop1)⟩
    try simp only [sH] at h35
    refine l_v rfl (q_fieldAddr rfl fo52_5 rfl) ?_
    refine l_v rfl (q_load1 rfl c1_3 rfl (by first | exact H.cell 0 rfl rfl | exact H.cell 1 rfl rfl | exact H.cell 2 rfl rfl | exact H.cell 3 rfl rfl)) ?_
    refine l_pbool rfl rfl ?_
    refine l_pickF (v := .bool _) rfl rfl rfl ?_
    refine l_pbool rfl rfl ?_
    refine l_split 40 rfl (fun h40 => ?_) (fun h40 => ?_)
    · try simp only [sH] at h40
      refine l_no rfl ?_
      refine l_no rfl ?_
      refine l_no rfl ?_
      refine l_pickT (v := .bool _) rfl rfl rfl ?_
      refine l_pbool rfl rfl ?_
      refine l_no rfl ?_
      refine l_no rfl ?_
      refine l_no rfl ?_
      refine l_no rfl ?_
      refine l_pickT (v := .bool _) rfl rfl rfl ?_
      refine l_pbool rfl rfl ?_
      refine l_no rfl ?_
      refine l_no rfl ?_
      refine l_no rfl ?_
      refine l_no rfl ?_
      refine l_pickT (v := .bool _) rfl rfl rfl ?_
      refine l_nil ?_
      refine w_cond_t rfl ?_
      refine w_seq ?_
      refine w_region ?_
      refine l_pslice rfl rfl ?_
      refine l_pint rfl rfl ?_
      refine l_nil ?_
      refine w_ret ?_
      refine fin2 rfl rfl ?_
      have hp : putEv e = ([], 150) := by unfold putEv; rw [if_neg hu0, if_pos (used_neg (e := e) (i := 4) (by omega) h40)]
      rw [hp]; exact ⟨none, 0, rfl, St.newRow (H.drop1.drop1.drop1)⟩
    try simp only [sH] at h40
    refine l_v rfl (q_fieldAddr rfl fo52_6 rfl) ?_
    refine l_v rfl (q_load1 rfl c1_3 rfl (by first | exact H.cell 0 rfl rfl | exact H.cell 1 rfl rfl | exact H.cell 2 rfl rfl | exact H.cell 3 rfl rfl)) ?_
    refine l_pbool rfl rfl ?_
    refine l_pickF (v := .bool _) rfl rfl rfl ?_
    refine l_pbool rfl rfl ?_
    refine l_split 45 rfl (fun h45 => ?_) (fun h45 => ?_)
    · try simp only [sH] at h45
      refine l_no rfl ?_
      refine l_no rfl ?_
      refine l_no rfl ?_
      refine l_no rfl ?_
      refine l_pickT (v := .bool _) rfl rfl rfl ?_
      refine l_pbool rfl rfl ?_
      refine l_no rfl ?_
      refine l_no rfl ?_
      refine l_no rfl ?_
      refine l_no rfl ?_
      refine l_pickT (v := .bool _) rfl rfl rfl ?_
      refine l_nil ?_
      refine w_cond_t rfl ?_
      refine w_seq ?_
      refine w_region ?_
      refine l_pslice rfl rfl ?_
      refine l_pint rfl rfl ?_
      refine l_nil ?_
      refine w_ret ?_
      refine fin2 rfl rfl ?_
      have hp : putEv e = ([], 150) := by unfold putEv; rw [if_neg hu0, if_pos (used_neg (e := e) (i := 5) (by omega) h45)]
      rw [hp]; exact ⟨none, 0, rfl, St.newRow (H.drop1.drop1.drop1)⟩
    try simp only [sH] at h45
    refine l_v rfl (q_fieldAddr rfl fo52_8 rfl) ?_
    refine l_v rfl (q_fieldAddr rfl fo49_0 rfl) ?_
    refine l_v rfl (q_load1 rfl c1_3 rfl (by first | exact H.cell 0 rfl rfl | exact H.cell 1 rfl rfl | exact H.cell 2 rfl rfl | exact H.cell 3 rfl rfl)) ?_
    refine l_pbool rfl rfl ?_
    refine l_pickF (v := .bool _) rfl rfl rfl ?_
    refine l_pbool rfl rfl ?_
    refine l_split 51 rfl (fun h51 => ?_) (fun h51 => ?_)
    · try simp only [sH] at h51
      refine l_no rfl ?_
      refine l_no rfl ?_
      refine l_no rfl ?_
      refine l_no rfl ?_
      refine l_pickT (v := .bool _) rfl rfl rfl ?_
      refine l_nil ?_
      refine w_cond_t rfl ?_
      refine w_seq ?_
      refine w_region ?_
      refine l_pslice rfl rfl ?_
      refine l_pint rfl rfl ?_
      refine l_nil ?_
      refine w_ret ?_
      refine fin2 rfl rfl ?_
      have hp : putEv e = ([], 150) := by unfold putEv; rw [if_neg hu0, if_neg (by rw [used_nums (by omega) (by omega) (by omega) (by omega) (by omega) (by omega)]; decide), if_pos ((used_op (e := e)).1 (by omega))]
      rw [hp]; exact ⟨none, 0, rfl, St.newRow (H.drop1.drop1.drop1)⟩
    try simp only [sH] at h51
    refine l_v rfl (q_fieldAddr rfl fo52_8 rfl) ?_
    refine l_v rfl (q_fieldAddr rfl fo49_1 rfl) ?_
    refine l_v rfl (q_load1 rfl c1_3 rfl (by first | exact H.cell 0 rfl rfl | exact H.cell 1 rfl rfl | exact H.cell 2 rfl rfl | exact H.cell 3 rfl rfl)) ?_
    refine l_pbool rfl rfl ?_
    refine l_pickF (v := .bool _) rfl rfl rfl ?_
    refine l_nil ?_
    refine w_cond rfl (fun c2 => ?_) (fun c2 => ?_)
    · try simp only [sH] at c2
      refine w_seq ?_
      refine w_region ?_
      refine l_pslice rfl rfl ?_
      refine l_pint rfl rfl ?_
      refine l_nil ?_
      refine w_ret ?_
      refine fin2 rfl rfl ?_
      have hp : putEv e = ([], 150) := by unfold putEv; rw [if_neg hu0, if_neg (by rw [used_nums (by omega) (by omega) (by omega) (by omega) (by omega) (by omega)]; decide), if_pos ((used_op (e := e)).2.1 (by omega))]
      rw [hp]; exact ⟨none, 0, rfl, St.newRow (H.drop1.drop1.drop1)⟩
    try simp only [sH] at c2
    refine w_skip ?_
    refine ⟨by repeat' first | exact aM | exact aR | refine aI rfl ?_ | refine aU rfl ?_ | refine aL rfl ?_, ?_⟩
    exact ⟨⟨⟩, trivial, used_nums (by omega) (by omega) (by omega) (by omega) (by omega) (by omega), (fun hb => by have h := (used_op (e := e)).2.2 hb; rw [← h.1, ← h.2.1]; omega), H⟩
  rintro ⟨⟩ ρ1 w ⟨hng6, hopn, H⟩
  refine w_cutG (G := Unit) [2, 3, 57, 58, 59, 60, 61, 62, 63, 64, 65, 66, 67] (fun ⟨⟩ => []) (fun ⟨⟩ w => (bitN (usesN e.k) 7 = true → e.ov.size ≤ 64) ∧ (bitN (usesN e.k) 8 = true → e.bs.length ≤ 16384) ∧ St W w (row 5 1 xa (usedE e).bs.length xc ((usedE e).bs.map B) :: blk b5 ((usedE e).cells xa xc) 52 :: blk b1 (e.cells a c) 52 :: F)) (fun _ => rfl) ?_ ?_
  · refine w_seq ?_
    refine w_region ?_
    refine l_v rfl (q_fieldAddr rfl fo52_8 rfl) ?_
    refine l_v rfl (q_fieldAddr rfl fo49_2 rfl) ?_
    refine l_v rfl (q_load1 rfl c1_9 rfl (by first | exact H.cell 0 rfl rfl | exact H.cell 1 rfl rfl | exact H.cell 2 rfl rfl | exact H.cell 3 rfl rfl)) ?_
    refine l_v rfl (q_lenStr rfl st_9 rfl) ?_
    refine l_pbool rfl rfl ?_
    refine l_pbool rfl rfl ?_
    refine l_split 62 rfl (fun h62 => ?_) (fun h62 => ?_)
    · try simp only [sH] at h62
      refine l_no rfl ?_
      refine l_no rfl ?_
      refine l_no rfl ?_
      refine l_no rfl ?_
      refine l_pickT (v := .bool _) rfl rfl rfl ?_
      refine l_nil ?_
      refine w_cond_t rfl ?_
      refine w_seq ?_
      refine w_region ?_
      refine l_pslice rfl rfl ?_
      refine l_pint rfl rfl ?_
      refine l_nil ?_
      refine w_ret ?_
      refine fin2 rfl rfl ?_
      have hp : putEv e = ([], 11) := by unfold putEv; rw [if_neg hu0, if_neg (by rw [hng6]; decide), if_neg (fun h => by have := hopn h.1; omega), if_pos (.inl ((used_long (e := e)).1 (by omega)))]
      rw [hp]; exact ⟨none, 0, rfl, St.newRow (H.drop1.drop1.drop1)⟩
    try simp only [sH] at h62
    refine l_v rfl (q_fieldAddr rfl fo52_9 rfl) ?_
    refine l_v rfl (q_load1 rfl c1_50 rfl (by first | exact H.cell 0 rfl rfl | exact H.cell 1 rfl rfl | exact H.cell 2 rfl rfl | exact H.cell 3 rfl rfl)) ?_
    refine l_v rfl (q_lenSlice rfl el_50 rfl) ?_
    refine l_pbool rfl rfl ?_
    refine l_pickF (v := .bool _) rfl rfl rfl ?_
    refine l_nil ?_
    refine w_cond rfl (fun c3 => ?_) (fun c3 => ?_)
    · try simp only [sH] at c3
      refine w_seq ?_
      refine w_region ?_
      refine l_pslice rfl rfl ?_
      refine l_pint rfl rfl ?_
      refine l_nil ?_
      refine w_ret ?_
      refine fin2 rfl rfl ?_
      have hp : putEv e = ([], 11) := by unfold putEv; rw [if_neg hu0, if_neg (by rw [hng6]; decide), if_neg (fun h => by have := hopn h.1; omega), if_pos (.inr ((used_long (e := e)).2.1 (by omega)))]
      rw [hp]; exact ⟨none, 0, rfl, St.newRow (H.drop1.drop1.drop1)⟩
    try simp only [sH] at c3
    refine w_skip ?_
    refine ⟨by repeat' first | exact aM | exact aR | refine aI rfl ?_ | refine aU rfl ?_ | refine aL rfl ?_, ?_⟩
    exact ⟨⟨⟩, trivial, (fun hb => by have h := (used_op (e := e)).2.2 hb; rw [← h.2.2]; omega), (fun hb => by have h := (used_long (e := e)).2.2 hb; rw [← h]; omega), H⟩
  rintro ⟨⟩ ρ1 w ⟨hovn, hbln, H⟩
  refine w_seq ?_
  refine w_region ?_
  refine l_v rfl (q_fieldAddr rfl fo52_0 rfl) ?_
  refine l_v rfl (q_load1 rfl c1_44 rfl (by first | exact H.cell 0 rfl rfl | exact H.cell 1 rfl rfl | exact H.cell 2 rfl rfl | exact H.cell 3 rfl rfl)) ?_
  refine b_call rfl cb_34 rfl (rputZ_ok (bs := []) (St.newRow H) ⟨by omega, by omega⟩ (by simp)) (fun v w hv => ?_)
  obtain ⟨a70, c70, rfl, H⟩ := hv
  refine l_pslice rfl rfl ?_
  refine l_nil ?_
  refine w_seq ?_
  refine w_region ?_
  refine l_v rfl (q_fieldAddr rfl fo52_1 rfl) ?_
  refine l_v rfl (q_load1 rfl c1_3 rfl (by first | exact H.cell 0 rfl rfl | exact H.cell 1 rfl rfl | exact H.cell 2 rfl rfl | exact H.cell 3 rfl rfl)) ?_
  refine l_v rfl (q_fieldAddr rfl fo52_2 rfl) ?_
  refine l_v rfl (q_load1 rfl c1_3 rfl (by first | exact H.cell 0 rfl rfl | exact H.cell 1 rfl rfl | exact H.cell 2 rfl rfl | exact H.cell 3 rfl rfl)) ?_
  refine l_v rfl (q_fieldAddr rfl fo52_3 rfl) ?_
  refine l_v rfl (q_load1 rfl c1_3 rfl (by first | exact H.cell 0 rfl rfl | exact H.cell 1 rfl rfl | exact H.cell 2 rfl rfl | exact H.cell 3 rfl rfl)) ?_
  refine l_v rfl (q_fieldAddr rfl fo52_4 rfl) ?_
  refine l_v rfl (q_load1 rfl c1_3 rfl (by first | exact H.cell 0 rfl rfl | exact H.cell 1 rfl rfl | exact H.cell 2 rfl rfl | exact H.cell 3 rfl rfl)) ?_
  refine l_v rfl (q_fieldAddr rfl fo52_5 rfl) ?_
  refine l_v rfl (q_load1 rfl c1_3 rfl (by first | exact H.cell 0 rfl rfl | exact H.cell 1 rfl rfl | exact H.cell 2 rfl rfl | exact H.cell 3 rfl rfl)) ?_
  refine l_v rfl (q_fieldAddr rfl fo52_6 rfl) ?_
  refine l_v rfl (q_load1 rfl c1_3 rfl (by first | exact H.cell 0 rfl rfl | exact H.cell 1 rfl rfl | exact H.cell 2 rfl rfl | exact H.cell 3 rfl rfl)) ?_
  refine b_buildSlice (cs := numV (usedE e)) rfl el_58 ze_3 rfl rfl rfl H (fun b83 w H => ?_)
  refine l_pslice rfl rfl ?_
  refine l_nil ?_
  refine w_seq ?_
  refine w_seq ?_
  refine w_region ?_
  refine l_pint rfl rfl ?_
  refine l_nil ?_
  refine w_block ?_
  refine w_loopG (G := Nat × Option Addr × Nat) [6, 8, 84, 85, 86, 87, 88, 89, 90, 91, 92, 93, 94, 95, 96, 97] (fun ⟨i, ba, bc⟩ => [(6, .slice ba (pgo e (usesN e.k) i).length bc), (8, .int .i64 ((i : Nat) : Int))]) (fun m ⟨i, ba, bc⟩ w => m + i = 6 ∧ St W w (row 5 1 ba (pgo e (usesN e.k) i).length bc ((pgo e (usesN e.k) i).map B) :: blk0 b83 (numV (usedE e)) 3 :: row 5 1 xa (usedE e).bs.length xc ((usedE e).bs.map B) :: blk b5 ((usedE e).cells xa xc) 52 :: blk b1 (e.cells a c) 52 :: F)) (fun _ => rfl) ?_ ?_
  · exact ⟨6, (0, a70, c70), ⟨rfl, rfl, trivial⟩, rfl, H.swap01⟩
  rintro m ⟨i, ba, bc⟩ ρ1 w ⟨hmi, H⟩
  refine w_seq ?_
  refine w_seq ?_
  refine w_region ?_
  refine l_pint rfl rfl ?_
  refine l_pbool rfl rfl ?_
  refine l_nil ?_
  refine w_cond rfl (fun c4 => ?_) (fun c4 => ?_)
  · try simp only [sH] at c4
    have hi6 : i < 6 := by omega
    have hpi := pgo_len e (usesN e.k) i
    refine w_skip ?_
    refine w_seq ?_
    refine w_block ?_
    refine w_seq ?_
    refine w_region ?_
    refine l_pstr rfl rfl ?_
    refine l_pint rfl rfl ?_
    refine l_v rfl (q_indexStr rfl st_9 rfl rfl ⟨by omega, usesS_at (i := i) hu0 (by omega)⟩) ?_
    refine l_pbool rfl rfl ?_
    refine l_nil ?_
    refine w_cond rfl (fun c5 => ?_) (fun c5 => ?_)
    · try simp only [sH] at c5
      have hb1 := usesS_hit hu0 (i := i) (by omega) c5
      have hxe : (usedE e).num i = e.num i := by rw [(used_spec e).2.2.1 i hi6, if_pos hb1]
      have hxp := negN_no hng6 hi6 hb1
      have hxm := (he.num i).2
      refine w_region ?_
      refine l_pslice rfl rfl ?_
      refine l_pslice rfl rfl ?_
      refine l_pint rfl rfl ?_
      refine l_v rfl (q_indexSliceN rfl el_58 rfl rfl hi6) ?_
      refine l_v rfl (q_load1 (v := I (e.num i)) rfl c1_3 rfl (H.cell0 1 rfl (by rw [Nat.zero_add, Nat.mul_one, ← hxe]; exact numV_at _ hi6))) ?_
      refine b_call rfl cb_34 rfl (rputZ_ok H ⟨hxp, hxm⟩ (by omega)) (fun v w hv => ?_)
      obtain ⟨a97, c97, rfl, H⟩ := hv
      refine l_pslice rfl rfl ?_
      refine l_nil ?_
      refine w_region ?_
      refine l_pint rfl rfl ?_
      first | refine l_v rfl (q_add rfl rfl rfl (by simp only [inK]; omega)) ?_ | refine l_pint rfl rfl ?_
      refine l_pint rfl rfl ?_
      refine l_nil ?_
      refine ⟨by repeat' first | exact aM | exact aR | refine aI rfl ?_ | refine aU rfl ?_ | refine aL rfl ?_, ?_⟩
      first
        | (refine ⟨m - 1, (i + 1, a97, c97), by omega, ⟨?_, by exact congrArg (Value.int IntKind.i64) (Int.natCast_succ i).symm, trivial⟩, by omega, ?_⟩
           · rw [pgo, if_pos hb1]; rfl
           rw [pgo, if_pos hb1]; exact H)
        | (refine ⟨m - 1, (i + 1, ba, bc), by omega, ⟨?_, by exact congrArg (Value.int IntKind.i64) (Int.natCast_succ i).symm, trivial⟩, by omega, ?_⟩
           · rw [pgo, if_neg (by rw [hb0]; decide), List.append_nil]; rfl
           rw [pgo, if_neg (by rw [hb0]; decide), List.append_nil]; exact H)
    try simp only [sH] at c5
    have hb0 := usesS_mis hu0 (i := i) (by omega) c5
    refine w_skip ?_
    refine w_region ?_
    refine l_pint rfl rfl ?_
    first | refine l_v rfl (q_add rfl rfl rfl (by simp only [inK]; omega)) ?_ | refine l_pint rfl rfl ?_
    refine l_pint rfl rfl ?_
    refine l_nil ?_
    refine ⟨by repeat' first | exact aM | exact aR | refine aI rfl ?_ | refine aU rfl ?_ | refine aL rfl ?_, ?_⟩
    first
      | (refine ⟨m - 1, (i + 1, a97, c97), by omega, ⟨?_, by exact congrArg (Value.int IntKind.i64) (Int.natCast_succ i).symm, trivial⟩, by omega, ?_⟩
         · rw [pgo, if_pos hb1]; rfl
         rw [pgo, if_pos hb1]; exact H)
      | (refine ⟨m - 1, (i + 1, ba, bc), by omega, ⟨?_, by exact congrArg (Value.int IntKind.i64) (Int.natCast_succ i).symm, trivial⟩, by omega, ?_⟩
         · rw [pgo, if_neg (by rw [hb0]; decide), List.append_nil]; rfl
         rw [pgo, if_neg (by rw [hb0]; decide), List.append_nil]; exact H)
  try simp only [sH] at c4
  obtain rfl : i = 6 := by omega
  have H := H.erase 1
  refine w_exit ?_
  refine w_cutG (G := Option Addr × Nat) [6, 98, 99, 100, 101, 102, 103, 104, 105, 106, 107, 108, 109, 110, 111, 112] (fun ⟨ba, bc⟩ => [(6, .slice ba (pgo e (usesN e.k) 6 ++ pdr e (usesN e.k)).length bc)]) (fun ⟨ba, bc⟩ w => St W w (row 5 1 ba (pgo e (usesN e.k) 6 ++ pdr e (usesN e.k)).length bc ((pgo e (usesN e.k) 6 ++ pdr e (usesN e.k)).map B) :: row 5 1 xa (usedE e).bs.length xc ((usedE e).bs.map B) :: blk b5 ((usedE e).cells xa xc) 52 :: blk b1 (e.cells a c) 52 :: F)) (fun _ => rfl) ?_ ?_
  · refine w_seq ?_
    refine w_region ?_
    refine l_pstr rfl rfl ?_
    refine l_v rfl (q_indexStr rfl st_9 rfl rfl ⟨by omega, usesS_at (i := 6) hu0 (by omega)⟩) ?_
    refine l_pbool rfl rfl ?_
    refine l_nil ?_
    refine w_cond rfl (fun c6 => ?_) (fun c6 => ?_)
    · try simp only [sH] at c6
      have hb6 := usesS_hit hu0 (i := 6) (by omega) c6
      refine w_seq ?_
      refine w_region ?_
      refine l_pslice rfl rfl ?_
      refine l_v rfl (q_fieldAddr rfl fo52_7 rfl) ?_
      refine l_v rfl (q_fieldAddr rfl fo47_0 rfl) ?_
      refine l_v rfl (q_load1 (v := N64 e.hi) rfl c1_45 rfl (H.cell 2 rfl (congrArg (fun z => some (N64 z)) (used_draw hb6).1))) ?_
      refine b_call rfl cb_35 rfl (Form_ok H he.hi.1) (fun v w hv => ?_)
      obtain ⟨a105, c105, rfl, H⟩ := hv
      refine b_append rfl el_50 ze_5 rfl rfl rfl H 1 rfl (ys := (formL e.hi).map B) ((H.rowInv (i := 0) rfl).2.2.2.2) (by simp) (EW.oneB _) ⟨by (try simp only [List.length_append]); omega, by simp only [maxLen]; (try simp only [List.length_append]); omega⟩ (fun a106 c106 w H => ?_)
      have e106 : (pgo e (usesN e.k) 6 ++ formL e.hi).length = (pgo e (usesN e.k) 6).length + (formL e.hi).length := by rw [List.length_append]
      rw [← e106] at H ⊢
      rw [← List.map_append] at H
      have H := H.drop1
      refine l_pslice rfl rfl ?_
      refine l_nil ?_
      refine w_region ?_
      refine l_pslice rfl rfl ?_
      refine l_v rfl (q_fieldAddr rfl fo52_7 rfl) ?_
      refine l_v rfl (q_fieldAddr rfl fo47_1 rfl) ?_
      refine l_v rfl (q_load1 (v := N64 e.lo) rfl c1_45 rfl (H.cell 2 rfl (congrArg (fun z => some (N64 z)) (used_draw hb6).2))) ?_
      refine b_call rfl cb_35 rfl (Form_ok H he.hi.2) (fun v w hv => ?_)
      obtain ⟨a111, c111, rfl, H⟩ := hv
      refine b_append rfl el_50 ze_5 rfl rfl rfl H 1 rfl (ys := (formL e.lo).map B) ((H.rowInv (i := 0) rfl).2.2.2.2) (by simp) (EW.oneB _) ⟨by (try simp only [List.length_append]); omega, by simp only [maxLen]; (try simp only [List.length_append]); omega⟩ (fun a112 c112 w H => ?_)
      have e112 : (pgo e (usesN e.k) 6 ++ formL e.hi ++ formL e.lo).length = (pgo e (usesN e.k) 6 ++ formL e.hi).length + (formL e.lo).length := by rw [List.length_append]
      rw [← e112] at H ⊢
      rw [← List.map_append] at H
      have H := H.drop1
      refine l_pslice rfl rfl ?_
      refine l_nil ?_
      refine ⟨by repeat' first | exact aM | exact aR | refine aI rfl ?_ | refine aU rfl ?_ | refine aL rfl ?_, ?_⟩
      have hq : pgo e (usesN e.k) 6 ++ pdr e (usesN e.k) = pgo e (usesN e.k) 6 ++ formL e.hi ++ formL e.lo := by rw [pdr, if_pos hb6, List.append_assoc]
      exact ⟨(a112, c112), ⟨by rw [hq]; rfl, trivial⟩, by rw [hq]; exact H⟩
    try simp only [sH] at c6
    have hb6 := usesS_mis hu0 (i := 6) (by omega) c6
    refine w_skip ?_
    refine ⟨by repeat' first | exact aM | exact aR | refine aI rfl ?_ | refine aU rfl ?_ | refine aL rfl ?_, ?_⟩
    have hq : pgo e (usesN e.k) 6 ++ pdr e (usesN e.k) = pgo e (usesN e.k) 6 := by rw [pdr, if_neg (by rw [hb6]; decide), List.append_nil]
    exact ⟨(ba, bc), ⟨by rw [hq]; rfl, trivial⟩, by rw [hq]; exact H⟩
  rintro ⟨ba, bc⟩ ρ1 w H
  refine w_cutG (G := Option Addr × Nat) [6, 113, 114, 115, 116, 117, 118, 119, 120, 121, 122, 123, 124, 125, 126, 127, 128, 129, 130, 131, 132, 133, 134, 135] (fun ⟨ba, bc⟩ => [(6, .slice ba (pgo e (usesN e.k) 6 ++ pdr e (usesN e.k) ++ pop e (usesN e.k)).length bc)]) (fun ⟨ba, bc⟩ w => St W w (row 5 1 ba (pgo e (usesN e.k) 6 ++ pdr e (usesN e.k) ++ pop e (usesN e.k)).length bc ((pgo e (usesN e.k) 6 ++ pdr e (usesN e.k) ++ pop e (usesN e.k)).map B) :: row 5 1 xa (usedE e).bs.length xc ((usedE e).bs.map B) :: blk b5 ((usedE e).cells xa xc) 52 :: blk b1 (e.cells a c) 52 :: F)) (fun _ => rfl) ?_ ?_
  · refine w_seq ?_
    refine w_region ?_
    refine l_pstr rfl rfl ?_
    refine l_v rfl (q_indexStr rfl st_9 rfl rfl ⟨by omega, usesS_at (i := 7) hu0 (by omega)⟩) ?_
    refine l_pbool rfl rfl ?_
    refine l_nil ?_
    refine w_cond rfl (fun c7 => ?_) (fun c7 => ?_)
    · try simp only [sH] at c7
      have hb7 := usesS_hit hu0 (i := 7) (by omega) c7
      have hop := hopn hb7
      have hov := hovn hb7
      have hxo := (used_op (e := e)).2.2 hb7
      refine w_seq ?_
      refine w_drawX [13] [3, 7, 11] 1 [(0, 0), (1, 0), (2, 0), (3, 1), (5, 0), (6, 0), (7, 1), (9, 0), (10, 0), (11, 1), (12, 0), (4, 2), (8, 2), (13, 2), (14, 0)] mixed (by kernel_rfl) (fun _ _ _ h => fin_panic h) H (fun H => ?_)
      refine r_pslice rfl rfl rfl ?_
      refine r_w rfl rfl (fun w => q_fieldAddr rfl fo52_8 rfl) ?_
      refine r_w rfl rfl (fun w => q_fieldAddr rfl fo49_0 rfl) ?_
      refine r_v rfl rfl (fun w hS => q_load1 (v := I e.ok) rfl c1_3 rfl (hS.cell 1 rfl (congrArg (fun z => some (I z)) hxo.1))) ?_
      refine r_w rfl rfl (fun w => q_fieldAddr rfl fo52_8 rfl) ?_
      refine r_w rfl rfl (fun w => q_fieldAddr rfl fo49_1 rfl) ?_
      refine r_v rfl rfl (fun w hS => q_load1 (v := I e.os) rfl c1_3 rfl (hS.cell 1 rfl (congrArg (fun z => some (I z)) hxo.2.1))) ?_
      refine r_w rfl rfl (fun w => q_fieldAddr rfl fo52_8 rfl) ?_
      refine r_w rfl rfl (fun w => q_fieldAddr rfl fo49_2 rfl) ?_
      refine r_v rfl rfl (fun w hS => q_load1 (v := .string e.ov) rfl c1_9 rfl (hS.cell 1 rfl (congrArg (fun z => some (Value.string z)) hxo.2.2))) ?_
      refine r_w rfl rfl (fun w => q_lenStr rfl st_9 rfl) ?_
      refine r_do rfl ?_
      refine b_call rfl cb_34 rfl (rputZ_ok H ⟨hop.1, he.op.1⟩ (by simp only [List.length_append]; omega)) (fun v w hv => ?_)
      obtain ⟨a120, c120, rfl, H⟩ := hv
      refine l_nil ⟨fun _ _ => Sx.tl H 1 rfl, ?_⟩
      refine r_do rfl ?_
      refine b_call rfl cb_34 rfl (rputZ_ok H ⟨hop.2, he.op.2⟩ (by simp only [List.length_append]; omega)) (fun v w hv => ?_)
      obtain ⟨a124, c124, rfl, H⟩ := hv
      refine l_nil ⟨fun _ _ => Sx.tl H 1 rfl, ?_⟩
      refine r_do rfl ?_
      refine b_call rfl cb_34 rfl (rput_ok (n := e.ov.size) H (by omega) (by simp only [List.length_append]; omega)) (fun v w hv => ?_)
      obtain ⟨a129, c129, rfl, H⟩ := hv
      refine l_nil ⟨(fun h => nomatch h), ?_⟩
      refine r_pslice rfl rfl rfl ?_
      refine r_nil ?_
      refine w_region ?_
      refine l_pslice rfl rfl ?_
      refine l_v rfl (q_fieldAddr rfl fo52_8 rfl) ?_
      refine l_v rfl (q_fieldAddr rfl fo49_2 rfl) ?_
      refine l_v rfl (q_load1 (v := .string e.ov) rfl c1_9 rfl (H.cell 2 rfl (congrArg (fun z => some (Value.string z)) hxo.2.2))) ?_
      refine b_strBytesF rfl st_9 by_50 el_50 rfl (by simp only [maxLen]; omega) H (fun b134 c134 w H => ?_)
      refine b_append rfl el_50 ze_5 rfl rfl rfl H 1 rfl (ys := e.ov.data.toList.map B) ((H.rowFInv (i := 0) rfl).2.2.2.2) (by rw [List.length_map, Array.length_toList]; exact (Nat.mul_one _).symm) (EW.oneB _) ⟨by (try simp only [List.length_append]); omega, by simp only [maxLen]; (try simp only [List.length_append]); omega⟩ (fun a135 c135 w H => ?_)
      have e135 : (pgo e (usesN e.k) 6 ++ pdr e (usesN e.k) ++ formL e.ok.toNat ++ formL e.os.toNat ++ formL e.ov.size ++ e.ov.data.toList).length = (pgo e (usesN e.k) 6 ++ pdr e (usesN e.k) ++ formL e.ok.toNat ++ formL e.os.toNat ++ formL e.ov.size).length + e.ov.size := by rw [List.length_append]; rfl
      rw [← e135] at H ⊢
      rw [← List.map_append] at H
      have H := H.drop1
      refine l_pslice rfl rfl ?_
      refine l_nil ?_
      refine ⟨by repeat' first | exact aM | exact aR | refine aI rfl ?_ | refine aU rfl ?_ | refine aL rfl ?_, ?_⟩
      have hq : pgo e (usesN e.k) 6 ++ pdr e (usesN e.k) ++ pop e (usesN e.k) = pgo e (usesN e.k) 6 ++ pdr e (usesN e.k) ++ formL e.ok.toNat ++ formL e.os.toNat ++ formL e.ov.size ++ e.ov.data.toList := by rw [pop, if_pos hb7]; simp only [List.append_assoc]
      exact ⟨(a135, c135), ⟨by rw [hq]; rfl, trivial⟩, by rw [hq]; exact H⟩
    try simp only [sH] at c7
    have hb7 := usesS_mis hu0 (i := 7) (by omega) c7
    refine w_skip ?_
    refine ⟨by repeat' first | exact aM | exact aR | refine aI rfl ?_ | refine aU rfl ?_ | refine aL rfl ?_, ?_⟩
    have hq : pgo e (usesN e.k) 6 ++ pdr e (usesN e.k) ++ pop e (usesN e.k) = pgo e (usesN e.k) 6 ++ pdr e (usesN e.k) := by rw [pop, if_neg (by rw [hb7]; decide), List.append_nil]
    exact ⟨(ba, bc), ⟨by rw [hq]; rfl, trivial⟩, by rw [hq]; exact H⟩
  rintro ⟨ba, bc⟩ ρ1 w H
  refine w_cutG (G := Option Addr × Nat) [6, 136, 137, 138, 139, 140, 141, 142, 143, 144, 145, 146, 147] (fun ⟨ba, bc⟩ => [(6, .slice ba (pgo e (usesN e.k) 6 ++ pdr e (usesN e.k) ++ pop e (usesN e.k) ++ pby e (usesN e.k)).length bc)]) (fun ⟨ba, bc⟩ w => St W w (row 5 1 ba (pgo e (usesN e.k) 6 ++ pdr e (usesN e.k) ++ pop e (usesN e.k) ++ pby e (usesN e.k)).length bc ((pgo e (usesN e.k) 6 ++ pdr e (usesN e.k) ++ pop e (usesN e.k) ++ pby e (usesN e.k)).map B) :: row 5 1 xa (usedE e).bs.length xc ((usedE e).bs.map B) :: blk b5 ((usedE e).cells xa xc) 52 :: blk b1 (e.cells a c) 52 :: F)) (fun _ => rfl) ?_ ?_
  · refine w_seq ?_
    refine w_region ?_
    refine l_pstr rfl rfl ?_
    refine l_v rfl (q_indexStr rfl st_9 rfl rfl ⟨by omega, usesS_at (i := 8) hu0 (by omega)⟩) ?_
    refine l_pbool rfl rfl ?_
    refine l_nil ?_
    refine w_cond rfl (fun c8 => ?_) (fun c8 => ?_)
    · try simp only [sH] at c8
      have hb8 := usesS_hit hu0 (i := 8) (by omega) c8
      have hbl := hbln hb8
      have hol := pop_len e (usesN e.k) hovn
      have hxb := (used_long (e := e)).2.2 hb8
      refine w_seq ?_
      refine w_region ?_
      refine l_pslice rfl rfl ?_
      refine l_v rfl (q_fieldAddr rfl fo52_9 rfl) ?_
      refine l_v rfl (q_load1 (v := .slice xa e.bs.length xc) rfl c1_50 rfl (H.cell 2 rfl (congrArg (fun z : List UInt8 => some (Value.slice xa z.length xc)) hxb))) ?_
      refine l_v rfl (q_lenSlice rfl el_50 rfl) ?_
      refine b_call rfl cb_34 rfl (rput_ok (n := e.bs.length) H (by omega) (by simp only [List.length_append]; omega)) (fun v w hv => ?_)
      obtain ⟨a143, c143, rfl, H⟩ := hv
      refine l_pslice rfl rfl ?_
      refine l_nil ?_
      refine w_region ?_
      refine l_pslice rfl rfl ?_
      refine l_v rfl (q_fieldAddr rfl fo52_9 rfl) ?_
      refine l_v rfl (q_load1 (v := .slice xa e.bs.length xc) rfl c1_50 rfl (H.cell 2 rfl (congrArg (fun z : List UInt8 => some (Value.slice xa z.length xc)) hxb))) ?_
      refine b_append rfl el_50 ze_5 rfl rfl rfl H 0 rfl (ys := e.bs.map B) (by have h := (H.rowInv (i := 1) rfl).2.2.2.2; rw [hxb] at h; exact h) (by simp) (EW.oneB _) ⟨by (try simp only [List.length_append]); omega, by simp only [maxLen]; (try simp only [List.length_append]); omega⟩ (fun a147 c147 w H => ?_)
      have e147 : (pgo e (usesN e.k) 6 ++ pdr e (usesN e.k) ++ pop e (usesN e.k) ++ formL e.bs.length ++ e.bs).length = (pgo e (usesN e.k) 6 ++ pdr e (usesN e.k) ++ pop e (usesN e.k) ++ formL e.bs.length).length + (e.bs).length := by rw [List.length_append]
      rw [← e147] at H ⊢
      rw [← List.map_append] at H
      refine l_pslice rfl rfl ?_
      refine l_nil ?_
      refine ⟨by repeat' first | exact aM | exact aR | refine aI rfl ?_ | refine aU rfl ?_ | refine aL rfl ?_, ?_⟩
      have hq : pgo e (usesN e.k) 6 ++ pdr e (usesN e.k) ++ pop e (usesN e.k) ++ pby e (usesN e.k) = pgo e (usesN e.k) 6 ++ pdr e (usesN e.k) ++ pop e (usesN e.k) ++ formL e.bs.length ++ e.bs := by rw [pby, if_pos hb8, ← List.append_assoc]
      exact ⟨(a147, c147), ⟨by rw [hq]; rfl, trivial⟩, by rw [hq]; exact H⟩
    try simp only [sH] at c8
    have hb8 := usesS_mis hu0 (i := 8) (by omega) c8
    refine w_skip ?_
    refine ⟨by repeat' first | exact aM | exact aR | refine aI rfl ?_ | refine aU rfl ?_ | refine aL rfl ?_, ?_⟩
    have hq : pgo e (usesN e.k) 6 ++ pdr e (usesN e.k) ++ pop e (usesN e.k) ++ pby e (usesN e.k) = pgo e (usesN e.k) 6 ++ pdr e (usesN e.k) ++ pop e (usesN e.k) := by rw [pby, if_neg (by rw [hb8]; decide), List.append_nil]
    exact ⟨(ba, bc), ⟨by rw [hq]; rfl, trivial⟩, by rw [hq]; exact H⟩
  rintro ⟨ba, bc⟩ ρ1 w H
  refine w_seq ?_
  refine w_region ?_
  refine l_pslice rfl rfl ?_
  refine l_pslice rfl rfl ?_
  refine l_pint rfl rfl ?_
  refine l_nil ?_
  refine w_ret ?_
  refine fin2 rfl rfl ?_
  have hp : putEv e = (pgo e (usesN e.k) 6 ++ pdr e (usesN e.k) ++ pop e (usesN e.k) ++ pby e (usesN e.k), 0) := by unfold putEv; rw [if_neg hu0, if_neg (by rw [hng6]; decide), if_neg (fun h => by have := hopn h.1; omega), if_neg (fun h => h.elim (fun h => by have := hovn h.1; omega) (fun h => by have := hbln h.1; omega))]
  rw [hp]; exact ⟨ba, bc, rfl, ((H.erase 1).erase 1).erase 1⟩
end Go.Proofs.YtfpmnhmdphaceaaGreatDoor
