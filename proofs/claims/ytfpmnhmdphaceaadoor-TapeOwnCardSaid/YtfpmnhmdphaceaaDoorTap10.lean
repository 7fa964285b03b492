/- Walks through the tape's functions. -/
import Derived.Test.YtfpmnhmdphaceaaDoorTap9
namespace Go.Proofs.YtfpmnhmdphaceaaDoor
open Go.EW
attribute [local irreducible] EW.W EW.L EW.fin block8 outB shaL
set_option linter.unusedVariables false
set_option linter.unusedSimpArgs false
def usedSet (e : Evt) (j : Nat) (x : Evt) : Evt :=
  match j with
  | 0 => { x with nd := e.nd }
  | 1 => { x with cl := e.cl }
  | 2 => { x with ix := e.ix }
  | 3 => { x with pl := e.pl }
  | 4 => { x with ct := e.ct }
  | 5 => { x with cu := e.cu }
  | 6 => { x with hi := e.hi, lo := e.lo }
  | 7 => { x with ok := e.ok, os := e.os, ov := e.ov }
  | _ => { x with bs := e.bs }
def usedTo (e : Evt) (u : Nat) : Nat → Evt
  | 0 => { evt0 with k := e.k }
  | j + 1 => if bitN u j = true then usedSet e j (usedTo e u j) else usedTo e u j
/-- an event in which what its kind does not use is zero -/
def usedE (e : Evt) : Evt := usedTo e (usesN e.k) 9
theorem used_of (e : Evt) : ∀ u ∈ usesT, (usedTo e u 8).bs = [] ∧ (usedTo e u 9).k = e.k ∧ (∀ i, i < 6 → (usedTo e u 9).num i = if bitN u i = true then e.num i else 0) ∧
    (usedTo e u 9).hi = (if bitN u 6 = true then e.hi else 0) ∧ (usedTo e u 9).lo = (if bitN u 6 = true then e.lo else 0) ∧ (usedTo e u 9).ok = (if bitN u 7 = true then e.ok else 0) ∧ (usedTo e u 9).os = (if bitN u 7 = true then e.os else 0) ∧
    (usedTo e u 9).ov = (if bitN u 7 = true then e.ov else ⟨#[]⟩) ∧ (usedTo e u 9).bs = (if bitN u 8 = true then e.bs else []) := by
  intro u hu
  simp only [usesT, List.mem_cons, List.not_mem_nil, or_false] at hu
  rcases hu with rfl | rfl | rfl | rfl | rfl | rfl | rfl | rfl | rfl | rfl | rfl | rfl | rfl <;> refine ⟨rfl, rfl, fun i hi => ?_, rfl, rfl, rfl, rfl, rfl, rfl⟩ <;> match i, hi with
  | 0, _ => rfl
  | 1, _ => rfl
  | 2, _ => rfl
  | 3, _ => rfl
  | 4, _ => rfl
  | 5, _ => rfl
theorem used_spec (e : Evt) : (usedTo e (usesN e.k) 8).bs = [] ∧ (usedE e).k = e.k ∧ (∀ i, i < 6 → (usedE e).num i = if bitN (usesN e.k) i = true then e.num i else 0) ∧
    (usedE e).hi = (if bitN (usesN e.k) 6 = true then e.hi else 0) ∧ (usedE e).lo = (if bitN (usesN e.k) 6 = true then e.lo else 0) ∧ (usedE e).ok = (if bitN (usesN e.k) 7 = true then e.ok else 0) ∧ (usedE e).os = (if bitN (usesN e.k) 7 = true then e.os else 0) ∧
    (usedE e).ov = (if bitN (usesN e.k) 7 = true then e.ov else ⟨#[]⟩) ∧ (usedE e).bs = (if bitN (usesN e.k) 8 = true then e.bs else []) := used_of e _ (uses_mem e.k)
theorem used_zero {e : Evt} (h : usesN e.k = 0) : usedE e = { evt0 with k := e.k } := by
  unfold usedE
  rw [h]; rfl
set_option maxRecDepth 8000 in
set_option maxHeartbeats 1000000 in
theorem Used_ok {W w : World} {F : List Seg} (H : St W w F) (e : Evt) {a : Option Addr} {c : Nat} (hr : RdIn W F a (e.bs.map B)) (hbl : e.bs.length ≤ 140737488355328) :
    Ok Tryd.prog 37 [.agg (e.cells a c).toArray].toArray w (fun r w' => ∃ a' c', r = .agg ((usedE e).cells a' c').toArray ∧ St W w' (row 5 1 a' (usedE e).bs.length c' ((usedE e).bs.map B) :: F)) := by
  have hsz : (⟨(usesS e.k).toArray⟩ : ByteArray).size = (usesS e.k).length := rfl
  refine enter (n := 73) (rs := #[.cell 2 30]) Tryd.func37 rfl rfl rfl rfl ?_
  refine w_seq ?_
  refine w_region ?_
  refine b_box (cs := e.cells a c) rfl rfl rfl H (fun b1 w H => ?_)
  refine b_alloc (cs := evt0.cells none 0) rfl ze_30 rfl H (fun b2 w H => ?_)
  refine l_nil ?_
  refine w_seq ?_
  refine w_region ?_
  refine l_v rfl (q_fieldAddr rfl fo30_0 rfl) ?_
  refine l_v rfl (q_load1 rfl c1_22 rfl (by first | exact H.cell 0 rfl rfl | exact H.cell 1 rfl rfl | exact H.cell 2 rfl rfl)) ?_
  refine b_call rfl cb_47 rfl (Uses_ok e.k) (fun v w hv => ?_)
  obtain ⟨rfl, rfl⟩ := hv
  refine l_pstr rfl rfl ?_
  refine l_nil ?_
  refine w_seq ?_
  refine w_region ?_
  refine l_v rfl (q_fieldAddr rfl fo30_0 rfl) ?_
  refine l_v rfl (q_load1 rfl c1_22 rfl (by first | exact H.cell 0 rfl rfl | exact H.cell 1 rfl rfl | exact H.cell 2 rfl rfl)) ?_
  refine l_v rfl (q_build (cs := ({ evt0 with k := e.k } : Evt).cells none 0) rfl sp_30 rfl) ?_
  refine b_alloc (cs := evt0.cells none 0) rfl ze_30 rfl H (fun b4 w H => ?_)
  refine b_store rfl sz_30 rfl rfl rfl rfl rfl H 0 rfl rfl (putL_all rfl) (fun w H => ?_)
  refine l_nil ?_
  refine w_seq ?_
  refine w_seq ?_
  refine w_region ?_
  refine l_pstr rfl rfl ?_
  refine l_v rfl (q_lenStr rfl st_9 rfl) ?_
  refine l_pbool rfl rfl ?_
  refine l_nil ?_
  refine w_cond rfl (fun c1 => ?_) (fun c1 => ?_)
  · try simp only [sH] at c1
    have hu0 := usesS_nil (k := e.k) (by omega)
    refine w_seq ?_
    refine w_region ?_
    refine l_v rfl (q_loadN (vs := ({ evt0 with k := e.k } : Evt).cells none 0) rfl ag_30 rfl rfl (H.cells 0 rfl)) ?_
    first
      | refine b_store rfl sz_30 rfl rfl rfl rfl rfl H 2 rfl rfl (putL_all rfl) (fun w H => ?_)
      | refine b_store rfl sz_30 rfl rfl rfl rfl rfl H 1 rfl rfl (putL_all rfl) (fun w H => ?_)
    refine l_nil ?_
    refine w_ret ?_
    refine finc rfl ag_30 rfl (by first | exact H.cells 0 rfl | exact H.cells 1 rfl | exact H.cells 2 rfl) ?_
    rw [used_zero hu0]
    exact ⟨none, 0, rfl, St.newRow H.drop1.drop1.drop1⟩
  try simp only [sH] at c1
  obtain ⟨hu0, hul⟩ := usesS_len (k := e.k) (by omega)
  refine w_skip ?_
  refine w_cutG (G := Unit) [16, 17, 18, 19, 20, 21] (fun ⟨⟩ => []) (fun ⟨⟩ w => St W w (blk b4 ((usedTo e (usesN e.k) 1).cells none 0) 30 :: blk b2 (evt0.cells none 0) 30 :: blk b1 (e.cells a c) 30 :: F)) (fun _ => rfl) ?_ ?_
  · refine w_seq ?_
    refine w_region ?_
    refine l_pstr rfl rfl ?_
    refine l_v rfl (q_indexStr rfl st_9 rfl rfl ⟨by omega, usesS_at (i := 0) hu0 (by omega)⟩) ?_
    refine l_pbool rfl rfl ?_
    refine l_nil ?_
    refine w_cond rfl (fun c2 => ?_) (fun c2 => ?_)
    · try simp only [sH] at c2
      have hb := usesS_hit hu0 (i := 0) (by omega) c2
      refine w_region ?_
      refine l_v rfl (q_fieldAddr rfl fo30_1 rfl) ?_
      refine l_v rfl (q_load1 rfl c1_3 rfl (by first | exact H.cell 0 rfl rfl | exact H.cell 1 rfl rfl | exact H.cell 2 rfl rfl)) ?_
      refine l_v rfl (q_fieldAddr rfl fo30_1 rfl) ?_
      refine b_store (cs' := (usedSet e 0 (usedTo e (usesN e.k) 0)).cells none 0) rfl sz_3 rfl rfl rfl rfl rfl H 0 rfl rfl rfl (fun w H => ?_)
      refine l_nil ?_
      refine ⟨by repeat' first | exact aM | exact aR | refine aI rfl ?_ | refine aU rfl ?_ | refine aL rfl ?_, ?_⟩
      exact ⟨⟨⟩, trivial, by rw [usedTo, if_pos hb]; exact H⟩
    try simp only [sH] at c2
    have hb := usesS_mis hu0 (i := 0) (by omega) c2
    refine w_skip ?_
    refine ⟨by repeat' first | exact aM | exact aR | refine aI rfl ?_ | refine aU rfl ?_ | refine aL rfl ?_, ?_⟩
    exact ⟨⟨⟩, trivial, by rw [usedTo, if_neg (by rw [hb]; decide)]; exact H⟩
  rintro ⟨⟩ ρ1 w H
  refine w_cutG (G := Unit) [22, 23, 24, 25, 26, 27] (fun ⟨⟩ => []) (fun ⟨⟩ w => St W w (blk b4 ((usedTo e (usesN e.k) 2).cells none 0) 30 :: blk b2 (evt0.cells none 0) 30 :: blk b1 (e.cells a c) 30 :: F)) (fun _ => rfl) ?_ ?_
  · refine w_seq ?_
    refine w_region ?_
    refine l_pstr rfl rfl ?_
    refine l_v rfl (q_indexStr rfl st_9 rfl rfl ⟨by omega, usesS_at (i := 1) hu0 (by omega)⟩) ?_
    refine l_pbool rfl rfl ?_
    refine l_nil ?_
    refine w_cond rfl (fun c3 => ?_) (fun c3 => ?_)
    · try simp only [sH] at c3
      have hb := usesS_hit hu0 (i := 1) (by omega) c3
      refine w_region ?_
      refine l_v rfl (q_fieldAddr rfl fo30_2 rfl) ?_
      refine l_v rfl (q_load1 rfl c1_3 rfl (by first | exact H.cell 0 rfl rfl | exact H.cell 1 rfl rfl | exact H.cell 2 rfl rfl)) ?_
      refine l_v rfl (q_fieldAddr rfl fo30_2 rfl) ?_
      refine b_store (cs' := (usedSet e 1 (usedTo e (usesN e.k) 1)).cells none 0) rfl sz_3 rfl rfl rfl rfl rfl H 0 rfl rfl rfl (fun w H => ?_)
      refine l_nil ?_
      refine ⟨by repeat' first | exact aM | exact aR | refine aI rfl ?_ | refine aU rfl ?_ | refine aL rfl ?_, ?_⟩
      exact ⟨⟨⟩, trivial, by rw [usedTo, if_pos hb]; exact H⟩
    try simp only [sH] at c3
    have hb := usesS_mis hu0 (i := 1) (by omega) c3
    refine w_skip ?_
    refine ⟨by repeat' first | exact aM | exact aR | refine aI rfl ?_ | refine aU rfl ?_ | refine aL rfl ?_, ?_⟩
    exact ⟨⟨⟩, trivial, by rw [usedTo, if_neg (by rw [hb]; decide)]; exact H⟩
  rintro ⟨⟩ ρ1 w H
  refine w_cutG (G := Unit) [28, 29, 30, 31, 32, 33] (fun ⟨⟩ => []) (fun ⟨⟩ w => St W w (blk b4 ((usedTo e (usesN e.k) 3).cells none 0) 30 :: blk b2 (evt0.cells none 0) 30 :: blk b1 (e.cells a c) 30 :: F)) (fun _ => rfl) ?_ ?_
  · refine w_seq ?_
    refine w_region ?_
    refine l_pstr rfl rfl ?_
    refine l_v rfl (q_indexStr rfl st_9 rfl rfl ⟨by omega, usesS_at (i := 2) hu0 (by omega)⟩) ?_
    refine l_pbool rfl rfl ?_
    refine l_nil ?_
    refine w_cond rfl (fun c4 => ?_) (fun c4 => ?_)
    · try simp only [sH] at c4
      have hb := usesS_hit hu0 (i := 2) (by omega) c4
      refine w_region ?_
      refine l_v rfl (q_fieldAddr rfl fo30_3 rfl) ?_
      refine l_v rfl (q_load1 rfl c1_3 rfl (by first | exact H.cell 0 rfl rfl | exact H.cell 1 rfl rfl | exact H.cell 2 rfl rfl)) ?_
      refine l_v rfl (q_fieldAddr rfl fo30_3 rfl) ?_
      refine b_store (cs' := (usedSet e 2 (usedTo e (usesN e.k) 2)).cells none 0) rfl sz_3 rfl rfl rfl rfl rfl H 0 rfl rfl rfl (fun w H => ?_)
      refine l_nil ?_
      refine ⟨by repeat' first | exact aM | exact aR | refine aI rfl ?_ | refine aU rfl ?_ | refine aL rfl ?_, ?_⟩
      exact ⟨⟨⟩, trivial, by rw [usedTo, if_pos hb]; exact H⟩
    try simp only [sH] at c4
    have hb := usesS_mis hu0 (i := 2) (by omega) c4
    refine w_skip ?_
    refine ⟨by repeat' first | exact aM | exact aR | refine aI rfl ?_ | refine aU rfl ?_ | refine aL rfl ?_, ?_⟩
    exact ⟨⟨⟩, trivial, by rw [usedTo, if_neg (by rw [hb]; decide)]; exact H⟩
  rintro ⟨⟩ ρ1 w H
  refine w_cutG (G := Unit) [34, 35, 36, 37, 38, 39] (fun ⟨⟩ => []) (fun ⟨⟩ w => St W w (blk b4 ((usedTo e (usesN e.k) 4).cells none 0) 30 :: blk b2 (evt0.cells none 0) 30 :: blk b1 (e.cells a c) 30 :: F)) (fun _ => rfl) ?_ ?_
  · refine w_seq ?_
    refine w_region ?_
    refine l_pstr rfl rfl ?_
    refine l_v rfl (q_indexStr rfl st_9 rfl rfl ⟨by omega, usesS_at (i := 3) hu0 (by omega)⟩) ?_
    refine l_pbool rfl rfl ?_
    refine l_nil ?_
    refine w_cond rfl (fun c5 => ?_) (fun c5 => ?_)
    · try simp only [sH] at c5
      have hb := usesS_hit hu0 (i := 3) (by omega) c5
      refine w_region ?_
      refine l_v rfl (q_fieldAddr rfl fo30_4 rfl) ?_
      refine l_v rfl (q_load1 rfl c1_3 rfl (by first | exact H.cell 0 rfl rfl | exact H.cell 1 rfl rfl | exact H.cell 2 rfl rfl)) ?_
      refine l_v rfl (q_fieldAddr rfl fo30_4 rfl) ?_
      refine b_store (cs' := (usedSet e 3 (usedTo e (usesN e.k) 3)).cells none 0) rfl sz_3 rfl rfl rfl rfl rfl H 0 rfl rfl rfl (fun w H => ?_)
      refine l_nil ?_
      refine ⟨by repeat' first | exact aM | exact aR | refine aI rfl ?_ | refine aU rfl ?_ | refine aL rfl ?_, ?_⟩
      exact ⟨⟨⟩, trivial, by rw [usedTo, if_pos hb]; exact H⟩
    try simp only [sH] at c5
    have hb := usesS_mis hu0 (i := 3) (by omega) c5
    refine w_skip ?_
    refine ⟨by repeat' first | exact aM | exact aR | refine aI rfl ?_ | refine aU rfl ?_ | refine aL rfl ?_, ?_⟩
    exact ⟨⟨⟩, trivial, by rw [usedTo, if_neg (by rw [hb]; decide)]; exact H⟩
  rintro ⟨⟩ ρ1 w H
  refine w_cutG (G := Unit) [40, 41, 42, 43, 44, 45] (fun ⟨⟩ => []) (fun ⟨⟩ w => St W w (blk b4 ((usedTo e (usesN e.k) 5).cells none 0) 30 :: blk b2 (evt0.cells none 0) 30 :: blk b1 (e.cells a c) 30 :: F)) (fun _ => rfl) ?_ ?_
  · refine w_seq ?_
    refine w_region ?_
    refine l_pstr rfl rfl ?_
    refine l_v rfl (q_indexStr rfl st_9 rfl rfl ⟨by omega, usesS_at (i := 4) hu0 (by omega)⟩) ?_
    refine l_pbool rfl rfl ?_
    refine l_nil ?_
    refine w_cond rfl (fun c6 => ?_) (fun c6 => ?_)
    · try simp only [sH] at c6
      have hb := usesS_hit hu0 (i := 4) (by omega) c6
      refine w_region ?_
      refine l_v rfl (q_fieldAddr rfl fo30_5 rfl) ?_
      refine l_v rfl (q_load1 rfl c1_3 rfl (by first | exact H.cell 0 rfl rfl | exact H.cell 1 rfl rfl | exact H.cell 2 rfl rfl)) ?_
      refine l_v rfl (q_fieldAddr rfl fo30_5 rfl) ?_
      refine b_store (cs' := (usedSet e 4 (usedTo e (usesN e.k) 4)).cells none 0) rfl sz_3 rfl rfl rfl rfl rfl H 0 rfl rfl rfl (fun w H => ?_)
      refine l_nil ?_
      refine ⟨by repeat' first | exact aM | exact aR | refine aI rfl ?_ | refine aU rfl ?_ | refine aL rfl ?_, ?_⟩
      exact ⟨⟨⟩, trivial, by rw [usedTo, if_pos hb]; exact H⟩
    try simp only [sH] at c6
    have hb := usesS_mis hu0 (i := 4) (by omega) c6
    refine w_skip ?_
    refine ⟨by repeat' first | exact aM | exact aR | refine aI rfl ?_ | refine aU rfl ?_ | refine aL rfl ?_, ?_⟩
    exact ⟨⟨⟩, trivial, by rw [usedTo, if_neg (by rw [hb]; decide)]; exact H⟩
  rintro ⟨⟩ ρ1 w H
  refine w_cutG (G := Unit) [46, 47, 48, 49, 50, 51] (fun ⟨⟩ => []) (fun ⟨⟩ w => St W w (blk b4 ((usedTo e (usesN e.k) 6).cells none 0) 30 :: blk b2 (evt0.cells none 0) 30 :: blk b1 (e.cells a c) 30 :: F)) (fun _ => rfl) ?_ ?_
  · refine w_seq ?_
    refine w_region ?_
    refine l_pstr rfl rfl ?_
    refine l_v rfl (q_indexStr rfl st_9 rfl rfl ⟨by omega, usesS_at (i := 5) hu0 (by omega)⟩) ?_
    refine l_pbool rfl rfl ?_
    refine l_nil ?_
    refine w_cond rfl (fun c7 => ?_) (fun c7 => ?_)
    · try simp only [sH] at c7
      have hb := usesS_hit hu0 (i := 5) (by omega) c7
      refine w_region ?_
      refine l_v rfl (q_fieldAddr rfl fo30_6 rfl) ?_
      refine l_v rfl (q_load1 rfl c1_3 rfl (by first | exact H.cell 0 rfl rfl | exact H.cell 1 rfl rfl | exact H.cell 2 rfl rfl)) ?_
      refine l_v rfl (q_fieldAddr rfl fo30_6 rfl) ?_
      refine b_store (cs' := (usedSet e 5 (usedTo e (usesN e.k) 5)).cells none 0) rfl sz_3 rfl rfl rfl rfl rfl H 0 rfl rfl rfl (fun w H => ?_)
      refine l_nil ?_
      refine ⟨by repeat' first | exact aM | exact aR | refine aI rfl ?_ | refine aU rfl ?_ | refine aL rfl ?_, ?_⟩
      exact ⟨⟨⟩, trivial, by rw [usedTo, if_pos hb]; exact H⟩
    try simp only [sH] at c7
    have hb := usesS_mis hu0 (i := 5) (by omega) c7
    refine w_skip ?_
    refine ⟨by repeat' first | exact aM | exact aR | refine aI rfl ?_ | refine aU rfl ?_ | refine aL rfl ?_, ?_⟩
    exact ⟨⟨⟩, trivial, by rw [usedTo, if_neg (by rw [hb]; decide)]; exact H⟩
  rintro ⟨⟩ ρ1 w H
  refine w_cutG (G := Unit) [52, 53, 54, 55, 56, 57] (fun ⟨⟩ => []) (fun ⟨⟩ w => St W w (blk b4 ((usedTo e (usesN e.k) 7).cells none 0) 30 :: blk b2 (evt0.cells none 0) 30 :: blk b1 (e.cells a c) 30 :: F)) (fun _ => rfl) ?_ ?_
  · refine w_seq ?_
    refine w_region ?_
    refine l_pstr rfl rfl ?_
    refine l_v rfl (q_indexStr rfl st_9 rfl rfl ⟨by omega, usesS_at (i := 6) hu0 (by omega)⟩) ?_
    refine l_pbool rfl rfl ?_
    refine l_nil ?_
    refine w_cond rfl (fun c8 => ?_) (fun c8 => ?_)
    · try simp only [sH] at c8
      have hb := usesS_hit hu0 (i := 6) (by omega) c8
      refine w_region ?_
      refine l_v rfl (q_fieldAddr rfl fo30_7 rfl) ?_
      refine l_v rfl (q_loadN (vs := [N64 e.hi, N64 e.lo]) rfl ag_25 rfl rfl ((H.cells 2 rfl).sub 7 2)) ?_
      refine l_v rfl (q_fieldAddr rfl fo30_7 rfl) ?_
      refine b_store (cs' := (usedSet e 6 (usedTo e (usesN e.k) 6)).cells none 0) rfl sz_25 rfl rfl rfl rfl rfl H 0 rfl rfl rfl (fun w H => ?_)
      refine l_nil ?_
      refine ⟨by repeat' first | exact aM | exact aR | refine aI rfl ?_ | refine aU rfl ?_ | refine aL rfl ?_, ?_⟩
      exact ⟨⟨⟩, trivial, by rw [usedTo, if_pos hb]; exact H⟩
    try simp only [sH] at c8
    have hb := usesS_mis hu0 (i := 6) (by omega) c8
    refine w_skip ?_
    refine ⟨by repeat' first | exact aM | exact aR | refine aI rfl ?_ | refine aU rfl ?_ | refine aL rfl ?_, ?_⟩
    exact ⟨⟨⟩, trivial, by rw [usedTo, if_neg (by rw [hb]; decide)]; exact H⟩
  rintro ⟨⟩ ρ1 w H
  refine w_cutG (G := Unit) [58, 59, 60, 61, 62, 63] (fun ⟨⟩ => []) (fun ⟨⟩ w => St W w (blk b4 ((usedTo e (usesN e.k) 8).cells none 0) 30 :: blk b2 (evt0.cells none 0) 30 :: blk b1 (e.cells a c) 30 :: F)) (fun _ => rfl) ?_ ?_
  · refine w_seq ?_
    refine w_region ?_
    refine l_pstr rfl rfl ?_
    refine l_v rfl (q_indexStr rfl st_9 rfl rfl ⟨by omega, usesS_at (i := 7) hu0 (by omega)⟩) ?_
    refine l_pbool rfl rfl ?_
    refine l_nil ?_
    refine w_cond rfl (fun c9 => ?_) (fun c9 => ?_)
    · try simp only [sH] at c9
      have hb := usesS_hit hu0 (i := 7) (by omega) c9
      refine w_region ?_
      refine l_v rfl (q_fieldAddr rfl fo30_8 rfl) ?_
      refine l_v rfl (q_loadN (vs := [I e.ok, I e.os, .string e.ov]) rfl ag_27 rfl rfl ((H.cells 2 rfl).sub 9 3)) ?_
      refine l_v rfl (q_fieldAddr rfl fo30_8 rfl) ?_
      refine b_store (cs' := (usedSet e 7 (usedTo e (usesN e.k) 7)).cells none 0) rfl sz_27 rfl rfl rfl rfl rfl H 0 rfl rfl rfl (fun w H => ?_)
      refine l_nil ?_
      refine ⟨by repeat' first | exact aM | exact aR | refine aI rfl ?_ | refine aU rfl ?_ | refine aL rfl ?_, ?_⟩
      exact ⟨⟨⟩, trivial, by rw [usedTo, if_pos hb]; exact H⟩
    try simp only [sH] at c9
    have hb := usesS_mis hu0 (i := 7) (by omega) c9
    refine w_skip ?_
    refine ⟨by repeat' first | exact aM | exact aR | refine aI rfl ?_ | refine aU rfl ?_ | refine aL rfl ?_, ?_⟩
    exact ⟨⟨⟩, trivial, by rw [usedTo, if_neg (by rw [hb]; decide)]; exact H⟩
  rintro ⟨⟩ ρ1 w H
  refine w_cutG (G := Option Addr × Nat) [5, 64, 65, 66, 67, 68, 69, 70, 71] (fun ⟨a', c'⟩ => []) (fun ⟨a', c'⟩ w => St W w (row 5 1 a' (usedE e).bs.length c' ((usedE e).bs.map B) :: blk b4 ((usedE e).cells a' c') 30 :: blk b2 (evt0.cells none 0) 30 :: blk b1 (e.cells a c) 30 :: F)) (fun _ => rfl) ?_ ?_
  · refine w_seq ?_
    refine w_region ?_
    refine l_pstr rfl rfl ?_
    refine l_v rfl (q_indexStr rfl st_9 rfl rfl ⟨by omega, usesS_at (i := 8) hu0 (by omega)⟩) ?_
    refine l_pbool rfl rfl ?_
    refine l_nil ?_
    refine w_cond rfl (fun c10 => ?_) (fun c10 => ?_)
    · try simp only [sH] at c10
      have hb := usesS_hit hu0 (i := 8) (by omega) c10
      refine w_seq ?_
      refine w_region ?_
      refine l_pslice rfl rfl ?_
      refine l_nil ?_
      refine w_region ?_
      refine l_pslice rfl rfl ?_
      refine l_v rfl (q_fieldAddr rfl fo30_9 rfl) ?_
      refine l_v rfl (q_load1 rfl c1_28 rfl (by first | exact H.cell 0 rfl rfl | exact H.cell 1 rfl rfl | exact H.cell 2 rfl rfl)) ?_
      refine b_append rfl el_28 ze_5 rfl rfl rfl (St.newRow (T := 5) (sz := 1) H) 0 rfl (ys := e.bs.map B) (hr.use H 3 rfl) (by simp) (EW.oneB _) ⟨by omega, by simp only [maxLen]; omega⟩ (fun a70 c70 w H => ?_)
      rw [Nat.zero_add e.bs.length] at H ⊢
      refine l_v rfl (q_fieldAddr rfl fo30_9 rfl) ?_
      refine b_store (cs' := (usedSet e 8 (usedTo e (usesN e.k) 8)).cells a70 c70) rfl sz_28 rfl rfl rfl rfl rfl H 1 rfl rfl rfl (fun w H => ?_)
      refine l_nil ?_
      refine ⟨by repeat' first | exact aM | exact aR | refine aI rfl ?_ | refine aU rfl ?_ | refine aL rfl ?_, ?_⟩
      refine ⟨(a70, c70), trivial, ?_⟩
      rw [usedE, usedTo, if_pos hb]
      exact H
    try simp only [sH] at c10
    have hb := usesS_mis hu0 (i := 8) (by omega) c10
    refine w_skip ?_
    refine ⟨by repeat' first | exact aM | exact aR | refine aI rfl ?_ | refine aU rfl ?_ | refine aL rfl ?_, ?_⟩
    refine ⟨(none, 0), trivial, ?_⟩
    rw [usedE, usedTo, if_neg (by rw [hb]; decide)]
    have H2 := St.newRow (T := 5) (sz := 1) H
    rw [(used_spec e).1]
    exact H2
  rintro ⟨a', c'⟩ ρ1 w H
  refine w_seq ?_
  refine w_region ?_
  refine l_v rfl (q_loadN (vs := (usedE e).cells a' c') rfl ag_30 rfl rfl (H.cells 1 rfl)) ?_
  first
    | refine b_store rfl sz_30 rfl rfl rfl rfl rfl H 2 rfl rfl (putL_all rfl) (fun w H => ?_)
    | refine b_store rfl sz_30 rfl rfl rfl rfl rfl H 1 rfl rfl (putL_all rfl) (fun w H => ?_)
  refine l_nil ?_
  refine w_ret ?_
  refine finc rfl ag_30 rfl (by first | exact H.cells 0 rfl | exact H.cells 1 rfl | exact H.cells 2 rfl) ?_
  exact ⟨a', c', rfl, ((H.erase 1).erase 1).erase 1⟩
end Go.Proofs.YtfpmnhmdphaceaaDoor
