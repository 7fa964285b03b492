/- The reference's scan does what the plain function runR says, of any bytes in memory. -/
import Derived.Test.YtfpmnhmdphaceaaGreatDoorZapSAll
import Derived.Test.YtfpmnhmdphaceaaGreatDoorBaseAll
namespace Go.Proofs.YtfpmnhmdphaceaaGreatDoor
open Go.EW
attribute [local irreducible] EW.W EW.L EW.fin block8 outB shaL
set_option linter.unusedVariables false
set_option linter.unusedSimpArgs false
attribute [local irreducible] crcN crcB crcL sealL openR sealR bodyR headR tailR eventsR chunkR numberR
theorem seg_cap {W w : World} {S : List Seg} {txs : List Tx} (H : St W w S) (i : Nat) (hi : S[i]? = some (Segs (txs.map Tx.segF))) : ∀ t ∈ txs, t.bs.length ≤ t.c := segF_cap H i hi
theorem oneTx (l : List Tx) : ∀ u ∈ l.map Tx.v, u.oneCell' = true := fun u hu => by
  obtain ⟨t, _, rfl⟩ := List.mem_map.1 hu; rfl
theorem headD_get {l : List Tx} (h : 0 < l.length) : (l.map Tx.bs).headD [] = l[0].bs := by
  cases l with
  | nil => exact absurd h (by simp)
  | cons x r => rfl
theorem run_no0 {bs : List UInt8} (h : (bodyR bs 0).2.2 ≠ 0) : runR bs = ((bodyR bs 0).2.2, 0, ss0) := if_pos h
theorem run_no1 {bs : List UInt8} (h : (bodyR bs 0).2.2 = 0) (h2 : (headR (bodyR bs 0).1).2 = false) : runR bs = (220, 0, ss0) := by
  unfold runR
  rw [if_neg (fun h3 => h3 h), if_pos h2]
theorem run_go {bs : List UInt8} (h : (bodyR bs 0).2.2 = 0) (h2 : (headR (bodyR bs 0).1).2 = true) : runR bs = loopR bs (bs.length + 1) { ss0 with stp := (headR (bodyR bs 0).1).1 } (bodyR bs 0).2.1 := by
  unfold runR
  rw [if_neg (fun h3 => h3 h), if_neg (by rw [h2]; decide)]
theorem loop_no {bs : List UInt8} {k q : Nat} {s : SS} (h : (bodyR bs q).2.2 ≠ 0) : loopR bs (k + 1) s q = ((bodyR bs q).2.2, q, { s with right := q }) := by
  rw [loopR, if_pos h]
theorem loop_tl {bs : List UInt8} {k q : Nat} {s : SS} (h : (bodyR bs q).2.2 = 0) (h2 : numberR (bodyR bs q).1 = 3) : loopR bs (k + 1) s q = tailR bs { s with right := q } q (bodyR bs q).1 (bodyR bs q).2.1 := by
  rw [loopR, if_neg (fun h3 => h3 h), if_pos h2]
theorem loop_ref {bs : List UInt8} {k q : Nat} {s : SS} (h : (bodyR bs q).2.2 = 0) (h2 : numberR (bodyR bs q).1 ≠ 3) (h3 : chunkR { s with right := q } (bodyR bs q).1 q = (false, { s with right := q })) : loopR bs (k + 1) s q = (220, q, { s with right := q }) := by
  rw [loopR, if_neg (fun h3 => h3 h), if_neg h2, if_pos (by rw [h3])]
theorem loop_go {bs : List UInt8} {k q : Nat} {s s' : SS} (h : (bodyR bs q).2.2 = 0) (h2 : numberR (bodyR bs q).1 ≠ 3) (h3 : chunkR { s with right := q } (bodyR bs q).1 q = (true, s')) : loopR bs (k + 1) s q = loopR bs k s' (q + (bodyR bs q).2.1) := by
  rw [loopR, if_neg (fun h3 => h3 h), if_neg h2, if_neg (by rw [h3]; simp), h3]
attribute [local irreducible] runR loopR
set_option maxRecDepth 8000 in
set_option maxHeartbeats 2000000 in
theorem scan_r {W w : World} {F : List Seg} (H : St W w F) {a : Option Addr} {n c : Nat} {bs : List UInt8} (hr : RdIn W F a (bs.map B)) (hl : bs.length = n) (hcp : bs.length ≤ c) (hn : n ≤ 140737488351232) :
    Ok Tryz.prog 50 [.slice a n c].toArray w (fun r w' => ∃ ca cc ta tc, ∃ txs : List Tx, r = .tuple #[.agg ((runR bs).2.2.stp.cells ca cc).toArray, .slice ta txs.length tc, I ((runR bs).2.2.right : Int), I ((runR bs).1 : Int), I ((if (runR bs).1 = 0 then 0 else (runR bs).2.1 : Nat) : Int)] ∧ txs.map (fun t => (getEv t.bs).1) = (runR bs).2.2.evs ∧ (∀ t ∈ txs, t.bs.length ≤ 32768) ∧ txs.length ≤ 4096 ∧ St W w' (row 36 1 ca (runR bs).2.2.stp.cls.length cc (intsV (runR bs).2.2.stp.cls) :: row 50 1 ta txs.length tc (txs.map Tx.v) :: Segs (txs.map Tx.segF) :: F)) := by
  subst hl
  refine enter (n := 149) (rs := #[.cell 2 26, .tmp 3, .tmp 4, .tmp 5, .tmp 6]) Tryz.func50 rfl rfl rfl rfl ?_
  refine w_seq ?_
  refine w_region ?_
  refine b_alloc (cs := stp0.cells none 0) rfl ze_26 rfl H (fun b2 w H => ?_)
  refine l_pslice rfl rfl ?_
  refine l_pint rfl rfl ?_
  refine l_pint rfl rfl ?_
  refine l_pint rfl rfl ?_
  refine l_nil ?_
  refine w_seq ?_
  refine w_region ?_
  refine l_pslice rfl rfl ?_
  refine b_call rfl cb_77 rfl (frame_r (p := 0) H (hr.up 1 rfl) rfl hcp (by omega) (Nat.zero_le _)) (fun v w hv => ?_)
  obtain ⟨fa, fc, rfl, H⟩ := hv
  have hble := bodyR_le bs 0
  generalize hnx : (if (bodyR bs 0).2.2 = 0 then 0 + (bodyR bs 0).2.1 else 0 : Nat) = nx
  refine l_ptup rfl rfl ?_
  refine l_pslice rfl rfl ?_
  refine l_pint rfl rfl ?_
  refine l_pint rfl rfl ?_
  refine l_pslice rfl rfl ?_
  refine l_pint rfl rfl ?_
  refine l_pint rfl rfl ?_
  refine l_nil ?_
  refine w_seq ?_
  refine w_seq ?_
  refine w_region ?_
  refine l_pint rfl rfl ?_
  refine l_pbool rfl rfl ?_
  refine l_nil ?_
  refine w_cond rfl (fun c1 => ?_) (fun c1 => ?_)
  · try simp only [sH] at c1
    refine w_seq ?_
    refine w_region ?_
    refine l_v rfl (q_build (cs := stp0.cells none 0) rfl sp_26 rfl) ?_
    refine l_pint rfl rfl ?_
    first
      | refine b_store rfl sz_26 rfl rfl rfl rfl rfl H 1 rfl rfl (putL_all rfl) (fun w H => ?_)
      | refine b_store rfl sz_26 rfl rfl rfl rfl rfl H 3 rfl rfl (putL_all rfl) (fun w H => ?_)
      | refine b_store rfl sz_26 rfl rfl rfl rfl rfl H 6 rfl rfl (putL_all rfl) (fun w H => ?_)
      | refine b_store rfl sz_26 rfl rfl rfl rfl rfl H 8 rfl rfl (putL_all rfl) (fun w H => ?_)
    refine l_pslice rfl rfl ?_
    refine l_pint rfl rfl ?_
    refine l_pint rfl rfl ?_
    refine l_pint rfl rfl ?_
    refine l_nil ?_
    refine w_ret ?_
    refine finct4 rfl ag_26 rfl (by first | exact H.cells 0 rfl | exact H.cells 1 rfl | exact H.cells 2 rfl | exact H.cells 3 rfl | exact H.cells 4 rfl | exact H.cells 5 rfl | exact H.cells 6 rfl | exact H.cells 7 rfl | exact H.cells 8 rfl) rfl rfl rfl rfl ?_
    have hR := run_no0 (bs := bs) (by omega)
    rw [hR]
    refine ⟨none, 0, none, 0, [], congrArg (fun z : Nat => Value.tuple #[_, _, _, _, I (z : Int)]) (ite_self 0).symm, rfl, fun t h => (by cases h), Nat.zero_le _, ?_⟩
    exact St.newRow (T := 36) (sz := 1) (St.newRow (T := 50) (sz := 1) (St.nilseg.2 H.drop1.drop1))
  try simp only [sH] at c1
  have hb0 : (bodyR bs 0).2.2 = 0 := by omega
  obtain rfl : (bodyR bs 0).2.1 = nx := by rw [if_pos hb0] at hnx; omega
  have hble2 := hble.2 hb0 (Nat.zero_le _)
  refine w_skip ?_
  refine w_seq ?_
  refine w_region ?_
  refine l_pslice rfl rfl ?_
  refine b_call rfl cb_78 rfl (getHead_r H (RdIn.row 0 rfl) rfl ((H.rowInv (i := 0) rfl).2.1) (by omega)) (fun v w hv => ?_)
  obtain ⟨sh, ca, cc, rfl, hsh, H⟩ := hv
  refine l_ptup rfl rfl ?_
  refine l_pagg rfl rfl ?_
  refine l_pbool rfl rfl ?_
  refine b_alloc (cs := stp0.cells none 0) rfl ze_26 rfl H (fun b10 w H => ?_)
  refine b_store (cs' := sh.cells ca cc) rfl sz_26 rfl rfl rfl rfl rfl H 0 rfl rfl (putL_all rfl) (fun w H => ?_)
  refine l_pbool rfl rfl ?_
  refine l_nil ?_
  refine w_seq ?_
  refine w_seq ?_
  refine w_region ?_
  refine l_pbool rfl rfl ?_
  refine l_pbool rfl rfl ?_
  refine l_nil ?_
  refine w_cond rfl (fun c2 => ?_) (fun c2 => ?_)
  · try simp only [sH] at c2
    have hok : (headR (bodyR bs 0).1).2 = false := by simpa using c2
    refine w_seq ?_
    refine w_region ?_
    refine l_v rfl (q_build (cs := stp0.cells none 0) rfl sp_26 rfl) ?_
    first
      | refine b_store rfl sz_26 rfl rfl rfl rfl rfl H 1 rfl rfl (putL_all rfl) (fun w H => ?_)
      | refine b_store rfl sz_26 rfl rfl rfl rfl rfl H 3 rfl rfl (putL_all rfl) (fun w H => ?_)
      | refine b_store rfl sz_26 rfl rfl rfl rfl rfl H 6 rfl rfl (putL_all rfl) (fun w H => ?_)
      | refine b_store rfl sz_26 rfl rfl rfl rfl rfl H 8 rfl rfl (putL_all rfl) (fun w H => ?_)
    refine l_pslice rfl rfl ?_
    refine l_pint rfl rfl ?_
    refine l_pint rfl rfl ?_
    refine l_pint rfl rfl ?_
    refine l_nil ?_
    refine w_ret ?_
    refine finct4 rfl ag_26 rfl (by first | exact H.cells 0 rfl | exact H.cells 1 rfl | exact H.cells 2 rfl | exact H.cells 3 rfl | exact H.cells 4 rfl | exact H.cells 5 rfl | exact H.cells 6 rfl | exact H.cells 7 rfl | exact H.cells 8 rfl) rfl rfl rfl rfl ?_
    have hR := run_no1 (bs := bs) hb0 hok
    rw [hR]
    refine ⟨none, 0, none, 0, [], congrArg (fun z : Nat => Value.tuple #[_, _, _, _, I (z : Int)]) (ite_self 0).symm, rfl, fun t h => (by cases h), Nat.zero_le _, ?_⟩
    exact St.newRow (T := 36) (sz := 1) (St.newRow (T := 50) (sz := 1) (St.nilseg.2 H.drop1.drop1.drop1.drop1))
  try simp only [sH] at c2
  have hok : (headR (bodyR bs 0).1).2 = true := by simpa using c2
  obtain rfl := hsh hok
  refine w_skip ?_
  refine w_seq ?_
  refine w_region ?_
  refine l_pslice rfl rfl ?_
  refine l_nil ?_
  refine w_seq ?_
  refine w_region ?_
  refine l_pslice rfl rfl ?_
  refine l_nil ?_
  refine w_block ?_
  refine w_loopG (G := Nat × SS × Option Addr × Nat × List Tx × Option Addr × Nat) [3, 4, 5, 6, 8, 12, 13, 14, 15, 16, 17, 18, 19, 20, 21, 40, 41, 42, 43, 44, 45, 46, 47, 48, 49, 50, 51, 52, 53, 54, 55, 56, 57, 58, 59, 60, 61, 62, 63, 64, 65, 66, 67, 68, 69, 70, 71, 72, 73, 74, 75, 76, 77, 78, 79, 80, 81, 82, 83, 84, 85, 86, 87, 88, 89, 90, 91, 92, 93, 94, 95, 96, 97, 98, 99, 100, 101, 102, 103, 104, 105, 106, 107, 108, 109, 110, 111, 112, 113, 114, 115, 116, 117, 118, 119, 120, 121, 122, 123, 124, 125, 126, 127, 128, 129, 130, 131, 132, 133, 134, 135, 136, 137, 138, 139, 140, 141, 142, 143, 144, 145, 146, 147, 148] (fun ⟨q, s, ta, tc, txs, pa, pc⟩ => [(8, I ((q : Nat) : Int)), (12, .slice ta txs.length tc), (13, .slice pa s.places.length pc)]) (fun m ⟨q, s, ta, tc, txs, pa, pc⟩ w => bs.length ≤ m + q ∧ Ch bs 0 q ∧ runR bs = loopR bs (m + 1) s q ∧ txs.map (fun t => (getEv t.bs).1) = s.evs ∧ (∀ t ∈ txs, t.bs.length ≤ 32768) ∧ LI (txs.map Tx.bs) s ∧ s.evs.length ≤ 4096 ∧ s.places.length ≤ s.evs.length ∧ (∀ x ∈ s.places, x ≤ bs.length) ∧ St W w (row 50 1 ta txs.length tc (txs.map Tx.v) :: Segs (txs.map Tx.segF) :: row 3 1 pa s.places.length pc (natsV s.places) :: blk b10 (s.stp.cells ca cc) 26 :: row 36 1 ca s.stp.cls.length cc (intsV s.stp.cls) :: blk b2 (stp0.cells none 0) 26 :: F)) (fun _ => rfl) ?_ ?_
  · refine ⟨bs.length, ((bodyR bs 0).2.1, { ss0 with stp := (headR (bodyR bs 0).1).1 }, none, 0, [], none, 0), ⟨rfl, rfl, rfl, trivial⟩, by omega, ?_, run_go hb0 hok, rfl, fun t h => (by cases h), LI.zero _, Nat.zero_le _, Nat.zero_le _, fun x hx => (by cases hx), ?_⟩
    · have hc0 := (Ch.nil (bs := bs) 0).snoc hb0
      rw [Nat.zero_add] at hc0; exact hc0
    exact St.newRow (T := 50) (sz := 1) (St.nilseg.2 (St.newRow (T := 3) (sz := 1) (H.erase 2)))
  rintro m ⟨q, s, ta, tc, txs, pa, pc⟩ ρ1 w ⟨hmi, hch, hrun, hev, htb, hli, hel, hpe, hpb, H⟩
  have hql := hch.le (Nat.zero_le _)
  have hle : txs.length = s.evs.length := by rw [← hev, List.length_map]
  refine w_block ?_
  refine w_seq ?_
  refine w_region ?_
  refine l_pslice rfl rfl ?_
  refine l_pint rfl rfl ?_
  refine b_call rfl cb_77 rfl (frame_r (p := q) H (hr.up 6 rfl) rfl hcp (by omega) hql.2) (fun v w hv => ?_)
  obtain ⟨fa, fc, rfl, H⟩ := hv
  have hfle := bodyR_le bs q
  have hfcp := (H.rowInv (i := 0) rfl).2.1
  generalize hnx : (if (bodyR bs q).2.2 = 0 then q + (bodyR bs q).2.1 else 0 : Nat) = nx
  refine l_ptup rfl rfl ?_
  refine l_pslice rfl rfl ?_
  refine l_pint rfl rfl ?_
  refine l_pint rfl rfl ?_
  refine l_pslice rfl rfl ?_
  refine l_pint rfl rfl ?_
  refine l_pint rfl rfl ?_
  refine l_nil ?_
  refine w_seq ?_
  refine w_seq ?_
  refine w_region ?_
  refine l_pint rfl rfl ?_
  refine l_pbool rfl rfl ?_
  refine l_nil ?_
  refine w_cond rfl (fun c3 => ?_) (fun c3 => ?_)
  · try simp only [sH] at c3
    refine w_seq ?_
    refine w_region ?_
    refine l_v rfl (q_loadN (vs := s.stp.cells ca cc) rfl ag_26 rfl rfl (H.cells 4 rfl)) ?_
    refine l_pslice rfl rfl ?_
    refine l_pint rfl rfl ?_
    refine l_pint rfl rfl ?_
    refine l_pint rfl rfl ?_
    first
      | refine b_store rfl sz_26 rfl rfl rfl rfl rfl H 1 rfl rfl (putL_all rfl) (fun w H => ?_)
      | refine b_store rfl sz_26 rfl rfl rfl rfl rfl H 3 rfl rfl (putL_all rfl) (fun w H => ?_)
      | refine b_store rfl sz_26 rfl rfl rfl rfl rfl H 6 rfl rfl (putL_all rfl) (fun w H => ?_)
      | refine b_store rfl sz_26 rfl rfl rfl rfl rfl H 8 rfl rfl (putL_all rfl) (fun w H => ?_)
    refine l_pslice rfl rfl ?_
    refine l_pint rfl rfl ?_
    refine l_pint rfl rfl ?_
    refine l_pint rfl rfl ?_
    refine l_nil ?_
    refine w_ret ?_
    refine finct4 rfl ag_26 rfl (by first | exact H.cells 0 rfl | exact H.cells 1 rfl | exact H.cells 2 rfl | exact H.cells 3 rfl | exact H.cells 4 rfl | exact H.cells 5 rfl | exact H.cells 6 rfl | exact H.cells 7 rfl | exact H.cells 8 rfl) rfl rfl rfl rfl ?_
    have hR := hrun.trans (loop_no (bs := bs) (by omega))
    rw [hR]
    exact ⟨ca, cc, ta, tc, txs, congrArg (fun z : Nat => Value.tuple #[_, _, _, _, I (z : Int)]) (if_neg (by omega)).symm, hev, htb, by omega, St.pick [5, 1, 2] (pre := [_, _, _, _, _, _, _]) rfl H rfl⟩
  try simp only [sH] at c3
  have hb1 : (bodyR bs q).2.2 = 0 := by omega
  obtain rfl : q + (bodyR bs q).2.1 = nx := by rw [if_pos hb1] at hnx; exact hnx
  have hfle2 := hfle.2 hb1 hql.2
  have hgd := bodyR_good hb1 hql.2
  refine w_skip ?_
  refine w_seq ?_
  refine w_seq ?_
  refine w_region ?_
  refine l_pslice rfl rfl ?_
  refine b_call rfl cb_79 rfl (first_r H (RdIn.row 0 rfl) rfl hfcp (by omega)) (fun v w hv => ?_)
  obtain ⟨rfl, H⟩ := hv
  refine l_pbool rfl rfl ?_
  refine l_nil ?_
  refine w_cond rfl (fun c4 => ?_) (fun c4 => ?_)
  · try simp only [sH] at c4
    refine w_seq ?_
    refine w_region ?_
    refine l_pslice rfl rfl ?_
    refine l_pint rfl rfl ?_
    refine l_pint rfl rfl ?_
    refine l_pslice rfl rfl ?_
    refine l_pslice rfl rfl ?_
    refine l_v rfl (q_lenSlice rfl el_37 rfl) ?_
    refine l_pslice rfl rfl ?_
    refine b_call rfl cb_80 rfl (tail_r (s := { s with right := q }) H (hr.up 7 rfl) rfl hcp (by omega) hgd.1 hgd.2.1 hgd.2.2.1 hql.2 c4 (RdIn.row 0 rfl) rfl hfcp (RdIn.row 3 rfl) rfl hle.symm hel (by show s.places.length ≤ _; omega) (fun x hx => by have := hpb x hx; omega)) (fun v w hv => ?_)
    obtain ⟨rfl, H⟩ := hv
    have hts := tail_sum (bs := bs) (fb := (bodyR bs q).1) (s := s) (q := q) (m := (bodyR bs q).2.1) hgd.1 hgd.2.2.1 (by omega) (by omega) (by omega)
    have hRT := hrun.trans (loop_tl hb1 c4)
    have hlf : LastF bs (q + (bodyR bs q).2.1) (bodyR bs q).2.1 := ⟨q, hch, hb1, rfl, rfl⟩
    generalize hTT : tailR bs { s with right := q } q (bodyR bs q).1 (bodyR bs q).2.1 = T at *
    have hav1 : T.1 = 0 → (if T.1 = 0 then 0 else T.2.1 : Nat) = 0 := fun h => if_pos h
    have hav2 : T.1 ≠ 0 → (if T.1 = 0 then 0 else T.2.1 : Nat) = T.2.1 := fun h => if_neg h
    generalize hav0 : (if T.1 = 0 then 0 else T.2.1 : Nat) = av at *
    refine l_ptup rfl rfl ?_
    refine l_pint rfl rfl ?_
    refine l_pint rfl rfl ?_
    refine l_pint rfl rfl ?_
    refine l_pint rfl rfl ?_
    refine l_nil ?_
    refine w_seq ?_
    refine w_seq ?_
    refine w_region ?_
    refine l_pint rfl rfl ?_
    refine l_pbool rfl rfl ?_
    refine l_pbool rfl rfl ?_
    refine l_split 70 rfl (fun h70 => ?_) (fun h70 => ?_)
    · try simp only [sH] at h70
      refine l_pint rfl rfl ?_
      refine l_pint rfl rfl ?_
      refine l_pbool rfl rfl ?_
      refine l_pickT (v := .bool _) rfl rfl rfl ?_
      refine l_pbool rfl rfl ?_
      refine l_split 75 rfl (fun h75 => ?_) (fun h75 => ?_)
      · try simp only [sH] at h75
        refine l_no rfl ?_
        refine l_no rfl ?_
        refine l_no rfl ?_
        refine l_no rfl ?_
        refine l_no rfl ?_
        refine l_no rfl ?_
        refine l_no rfl ?_
        refine l_pickT (v := .bool _) rfl rfl rfl ?_
        refine l_nil ?_
        refine w_cond_t rfl ?_
        refine w_seq ?_
        refine w_region ?_
        refine l_v rfl (q_loadN (vs := s.stp.cells ca cc) rfl ag_26 rfl rfl (H.cells 4 rfl)) ?_
        refine l_pslice rfl rfl ?_
        refine l_pint rfl rfl ?_
        refine l_pint rfl rfl ?_
        refine l_pint rfl rfl ?_
        first
          | refine b_store rfl sz_26 rfl rfl rfl rfl rfl H 1 rfl rfl (putL_all rfl) (fun w H => ?_)
          | refine b_store rfl sz_26 rfl rfl rfl rfl rfl H 3 rfl rfl (putL_all rfl) (fun w H => ?_)
          | refine b_store rfl sz_26 rfl rfl rfl rfl rfl H 6 rfl rfl (putL_all rfl) (fun w H => ?_)
          | refine b_store rfl sz_26 rfl rfl rfl rfl rfl H 8 rfl rfl (putL_all rfl) (fun w H => ?_)
        refine l_pslice rfl rfl ?_
        refine l_pint rfl rfl ?_
        refine l_pint rfl rfl ?_
        refine l_pint rfl rfl ?_
        refine l_nil ?_
        refine w_ret ?_
        refine finct4 rfl ag_26 rfl (by first | exact H.cells 0 rfl | exact H.cells 1 rfl | exact H.cells 2 rfl | exact H.cells 3 rfl | exact H.cells 4 rfl | exact H.cells 5 rfl | exact H.cells 6 rfl | exact H.cells 7 rfl | exact H.cells 8 rfl) rfl rfl rfl rfl ?_
        obtain ⟨ht1, ht2, ht3⟩ := hts
        have hrt : T.2.2.right = q := by rcases ht3 with h | h | h <;> omega
        rw [hRT]
        refine ⟨ca, cc, ta, tc, txs, ?_, by rw [ht2]; exact hev, htb, by omega, by rw [ht1]; exact St.pick [5, 1, 2] (pre := [_, _, _, _, _, _, _]) rfl H rfl⟩
        rw [ht1, hrt, hav0]
        try rfl
      try simp only [sH] at h75
      refine l_pint rfl rfl ?_
      refine l_pbool rfl rfl ?_
      refine l_pbool rfl rfl ?_
      refine l_split 78 rfl (fun h78 => ?_) (fun h78 => ?_)
      · try simp only [sH] at h78
        refine l_pint rfl rfl ?_
        refine l_pint rfl rfl ?_
        refine l_pbool rfl rfl ?_
        refine l_pickT (v := .bool _) rfl rfl rfl ?_
        refine l_pickF (v := .bool _) rfl rfl rfl ?_
        refine l_nil ?_
        refine w_cond rfl (fun c5 => ?_) (fun c5 => ?_)
        · try simp only [sH] at c5
          refine w_seq ?_
          refine w_region ?_
          refine l_v rfl (q_loadN (vs := s.stp.cells ca cc) rfl ag_26 rfl rfl (H.cells 4 rfl)) ?_
          refine l_pslice rfl rfl ?_
          refine l_pint rfl rfl ?_
          refine l_pint rfl rfl ?_
          refine l_pint rfl rfl ?_
          first
            | refine b_store rfl sz_26 rfl rfl rfl rfl rfl H 1 rfl rfl (putL_all rfl) (fun w H => ?_)
            | refine b_store rfl sz_26 rfl rfl rfl rfl rfl H 3 rfl rfl (putL_all rfl) (fun w H => ?_)
            | refine b_store rfl sz_26 rfl rfl rfl rfl rfl H 6 rfl rfl (putL_all rfl) (fun w H => ?_)
            | refine b_store rfl sz_26 rfl rfl rfl rfl rfl H 8 rfl rfl (putL_all rfl) (fun w H => ?_)
          refine l_pslice rfl rfl ?_
          refine l_pint rfl rfl ?_
          refine l_pint rfl rfl ?_
          refine l_pint rfl rfl ?_
          refine l_nil ?_
          refine w_ret ?_
          refine finct4 rfl ag_26 rfl (by first | exact H.cells 0 rfl | exact H.cells 1 rfl | exact H.cells 2 rfl | exact H.cells 3 rfl | exact H.cells 4 rfl | exact H.cells 5 rfl | exact H.cells 6 rfl | exact H.cells 7 rfl | exact H.cells 8 rfl) rfl rfl rfl rfl ?_
          obtain ⟨ht1, ht2, ht3⟩ := hts
          have hrt : T.2.2.right = q := by rcases ht3 with h | h | h <;> omega
          rw [hRT]
          refine ⟨ca, cc, ta, tc, txs, ?_, by rw [ht2]; exact hev, htb, by omega, by rw [ht1]; exact St.pick [5, 1, 2] (pre := [_, _, _, _, _, _, _]) rfl H rfl⟩
          rw [ht1, hrt, hav0]
          try rfl
        try simp only [sH] at c5
        refine w_skip ?_
        refine w_seq ?_
        refine w_seq ?_
        refine w_region ?_
        refine l_pint rfl rfl ?_
        refine l_pbool rfl rfl ?_
        refine l_nil ?_
        refine w_cond rfl (fun c6 => ?_) (fun c6 => ?_)
        · try simp only [sH] at c6
          refine w_seq ?_
          refine w_drawT [7] [0] [(0, 1), (1, 0), (2, 0), (3, 0), (5, 0), (6, 0), (4, 2), (7, 2), (8, 0), (9, 0), (10, 0), (11, 0)] mixed (by kernel_rfl) (fun _ _ _ h => fin_panic h) H (fun H => ?_)
          refine r_v rfl rfl (fun w hS => q_loadN (vs := s.stp.cells ca cc) rfl ag_26 rfl rfl (hS.cells 4 rfl)) ?_
          refine r_pslice rfl rfl rfl ?_
          refine r_pslice rfl rfl rfl ?_
          refine r_pint rfl rfl rfl ?_
          refine r_pint rfl rfl rfl ?_
          refine r_pint rfl rfl rfl ?_
          refine r_do rfl ?_
          refine b_call rfl cb_81 rfl (right_r H (hr.up 7 rfl) rfl hcp (by omega) hlf) (fun v w hv => ?_)
          obtain ⟨rfl, H⟩ := hv
          refine l_nil ⟨fun _ _ => (by first | exact H | exact H.drop1 | exact H.drop1.drop1 | exact H.drop1.drop1.drop1), ?_⟩
          refine r_do rfl ?_
          first
            | refine b_store rfl sz_26 rfl rfl rfl rfl rfl H 1 rfl rfl (putL_all rfl) (fun w H => ?_)
            | refine b_store rfl sz_26 rfl rfl rfl rfl rfl H 3 rfl rfl (putL_all rfl) (fun w H => ?_)
            | refine b_store rfl sz_26 rfl rfl rfl rfl rfl H 6 rfl rfl (putL_all rfl) (fun w H => ?_)
            | refine b_store rfl sz_26 rfl rfl rfl rfl rfl H 8 rfl rfl (putL_all rfl) (fun w H => ?_)
          refine l_nil ⟨(fun h => nomatch h), ?_⟩
          refine r_pslice rfl rfl rfl ?_
          refine r_pint rfl rfl rfl ?_
          refine r_pint rfl rfl rfl ?_
          refine r_pint rfl rfl rfl ?_
          refine r_nil ?_
          refine w_ret ?_
          refine finct4 rfl ag_26 rfl (by first | exact H.cells 0 rfl | exact H.cells 1 rfl | exact H.cells 2 rfl | exact H.cells 3 rfl | exact H.cells 4 rfl | exact H.cells 5 rfl | exact H.cells 6 rfl | exact H.cells 7 rfl | exact H.cells 8 rfl) rfl rfl rfl rfl ?_
          obtain ⟨ht1, ht2, ht3⟩ := hts
          have hrt : T.2.2.right = (if q + (bodyR bs q).2.1 + 4 ≤ bs.length ∧ numB ((bs.drop (q + (bodyR bs q).2.1)).take 4) = (bodyR bs q).2.1 then q + (bodyR bs q).2.1 + 4 else q + (bodyR bs q).2.1) := by
            rcases ht3 with h | h | h
            · exfalso; omega
            · exact h.2.2
            exfalso; omega
          rw [hRT]
          refine ⟨ca, cc, ta, tc, txs, ?_, by rw [ht2]; exact hev, htb, by omega, by rw [ht1]; exact St.pick [5, 1, 2] (pre := [_, _, _, _, _, _, _]) rfl H rfl⟩
          rw [ht1, hrt, hav0]
          try rfl
        try simp only [sH] at c6
        refine w_skip ?_
        refine w_seq ?_
        refine w_region ?_
        refine l_v rfl (q_loadN (vs := s.stp.cells ca cc) rfl ag_26 rfl rfl (H.cells 4 rfl)) ?_
        refine l_pslice rfl rfl ?_
        refine l_pslice rfl rfl ?_
        refine l_v rfl (q_lenSlice rfl el_50 rfl) ?_
        first
          | refine b_store rfl sz_26 rfl rfl rfl rfl rfl H 1 rfl rfl (putL_all rfl) (fun w H => ?_)
          | refine b_store rfl sz_26 rfl rfl rfl rfl rfl H 3 rfl rfl (putL_all rfl) (fun w H => ?_)
          | refine b_store rfl sz_26 rfl rfl rfl rfl rfl H 6 rfl rfl (putL_all rfl) (fun w H => ?_)
          | refine b_store rfl sz_26 rfl rfl rfl rfl rfl H 8 rfl rfl (putL_all rfl) (fun w H => ?_)
        refine l_pslice rfl rfl ?_
        refine l_pint rfl rfl ?_
        refine l_pint rfl rfl ?_
        refine l_pint rfl rfl ?_
        refine l_nil ?_
        refine w_ret ?_
        refine finct4 rfl ag_26 rfl (by first | exact H.cells 0 rfl | exact H.cells 1 rfl | exact H.cells 2 rfl | exact H.cells 3 rfl | exact H.cells 4 rfl | exact H.cells 5 rfl | exact H.cells 6 rfl | exact H.cells 7 rfl | exact H.cells 8 rfl) rfl rfl rfl rfl ?_
        obtain ⟨ht1, ht2, ht3⟩ := hts
        have h0 : T.1 = 0 := by omega
        have hrt : T.2.2.right = bs.length := by rcases ht3 with h | h | h <;> omega
        rw [hRT]
        refine ⟨ca, cc, ta, tc, txs, ?_, by rw [ht2]; exact hev, htb, by omega, by rw [ht1]; exact St.pick [5, 1, 2] (pre := [_, _, _, _, _, _, _]) rfl H rfl⟩
        rw [ht1, hrt, hav0, hav1 h0, h0]
        try rfl
      try simp only [sH] at h78
      refine l_no rfl ?_
      refine l_no rfl ?_
      refine l_no rfl ?_
      refine l_pickF (v := .bool _) rfl rfl rfl ?_
      refine l_pickF (v := .bool _) rfl rfl rfl ?_
      refine l_nil ?_
      refine w_cond_f rfl ?_
      refine w_skip ?_
      refine w_seq ?_
      refine w_seq ?_
      refine w_region ?_
      refine l_pint rfl rfl ?_
      refine l_pbool rfl rfl ?_
      refine l_nil ?_
      refine w_cond rfl (fun c7 => ?_) (fun c7 => ?_)
      · try simp only [sH] at c7
        refine w_seq ?_
        refine w_drawT [7] [0] [(0, 1), (1, 0), (2, 0), (3, 0), (5, 0), (6, 0), (4, 2), (7, 2), (8, 0), (9, 0), (10, 0), (11, 0)] mixed (by kernel_rfl) (fun _ _ _ h => fin_panic h) H (fun H => ?_)
        refine r_v rfl rfl (fun w hS => q_loadN (vs := s.stp.cells ca cc) rfl ag_26 rfl rfl (hS.cells 4 rfl)) ?_
        refine r_pslice rfl rfl rfl ?_
        refine r_pslice rfl rfl rfl ?_
        refine r_pint rfl rfl rfl ?_
        refine r_pint rfl rfl rfl ?_
        refine r_pint rfl rfl rfl ?_
        refine r_do rfl ?_
        refine b_call rfl cb_81 rfl (right_r H (hr.up 7 rfl) rfl hcp (by omega) hlf) (fun v w hv => ?_)
        obtain ⟨rfl, H⟩ := hv
        refine l_nil ⟨fun _ _ => (by first | exact H | exact H.drop1 | exact H.drop1.drop1 | exact H.drop1.drop1.drop1), ?_⟩
        refine r_do rfl ?_
        first
          | refine b_store rfl sz_26 rfl rfl rfl rfl rfl H 1 rfl rfl (putL_all rfl) (fun w H => ?_)
          | refine b_store rfl sz_26 rfl rfl rfl rfl rfl H 3 rfl rfl (putL_all rfl) (fun w H => ?_)
          | refine b_store rfl sz_26 rfl rfl rfl rfl rfl H 6 rfl rfl (putL_all rfl) (fun w H => ?_)
          | refine b_store rfl sz_26 rfl rfl rfl rfl rfl H 8 rfl rfl (putL_all rfl) (fun w H => ?_)
        refine l_nil ⟨(fun h => nomatch h), ?_⟩
        refine r_pslice rfl rfl rfl ?_
        refine r_pint rfl rfl rfl ?_
        refine r_pint rfl rfl rfl ?_
        refine r_pint rfl rfl rfl ?_
        refine r_nil ?_
        refine w_ret ?_
        refine finct4 rfl ag_26 rfl (by first | exact H.cells 0 rfl | exact H.cells 1 rfl | exact H.cells 2 rfl | exact H.cells 3 rfl | exact H.cells 4 rfl | exact H.cells 5 rfl | exact H.cells 6 rfl | exact H.cells 7 rfl | exact H.cells 8 rfl) rfl rfl rfl rfl ?_
        obtain ⟨ht1, ht2, ht3⟩ := hts
        have hrt : T.2.2.right = (if q + (bodyR bs q).2.1 + 4 ≤ bs.length ∧ numB ((bs.drop (q + (bodyR bs q).2.1)).take 4) = (bodyR bs q).2.1 then q + (bodyR bs q).2.1 + 4 else q + (bodyR bs q).2.1) := by
          rcases ht3 with h | h | h
          · exfalso; omega
          · exact h.2.2
          exfalso; omega
        rw [hRT]
        refine ⟨ca, cc, ta, tc, txs, ?_, by rw [ht2]; exact hev, htb, by omega, by rw [ht1]; exact St.pick [5, 1, 2] (pre := [_, _, _, _, _, _, _]) rfl H rfl⟩
        rw [ht1, hrt, hav0]
        try rfl
      try simp only [sH] at c7
      refine w_skip ?_
      refine w_seq ?_
      refine w_region ?_
      refine l_v rfl (q_loadN (vs := s.stp.cells ca cc) rfl ag_26 rfl rfl (H.cells 4 rfl)) ?_
      refine l_pslice rfl rfl ?_
      refine l_pslice rfl rfl ?_
      refine l_v rfl (q_lenSlice rfl el_50 rfl) ?_
      first
        | refine b_store rfl sz_26 rfl rfl rfl rfl rfl H 1 rfl rfl (putL_all rfl) (fun w H => ?_)
        | refine b_store rfl sz_26 rfl rfl rfl rfl rfl H 3 rfl rfl (putL_all rfl) (fun w H => ?_)
        | refine b_store rfl sz_26 rfl rfl rfl rfl rfl H 6 rfl rfl (putL_all rfl) (fun w H => ?_)
        | refine b_store rfl sz_26 rfl rfl rfl rfl rfl H 8 rfl rfl (putL_all rfl) (fun w H => ?_)
      refine l_pslice rfl rfl ?_
      refine l_pint rfl rfl ?_
      refine l_pint rfl rfl ?_
      refine l_pint rfl rfl ?_
      refine l_nil ?_
      refine w_ret ?_
      refine finct4 rfl ag_26 rfl (by first | exact H.cells 0 rfl | exact H.cells 1 rfl | exact H.cells 2 rfl | exact H.cells 3 rfl | exact H.cells 4 rfl | exact H.cells 5 rfl | exact H.cells 6 rfl | exact H.cells 7 rfl | exact H.cells 8 rfl) rfl rfl rfl rfl ?_
      obtain ⟨ht1, ht2, ht3⟩ := hts
      have h0 : T.1 = 0 := by omega
      have hrt : T.2.2.right = bs.length := by rcases ht3 with h | h | h <;> omega
      rw [hRT]
      refine ⟨ca, cc, ta, tc, txs, ?_, by rw [ht2]; exact hev, htb, by omega, by rw [ht1]; exact St.pick [5, 1, 2] (pre := [_, _, _, _, _, _, _]) rfl H rfl⟩
      rw [ht1, hrt, hav0, hav1 h0, h0]
      try rfl
    try simp only [sH] at h70
    refine l_no rfl ?_
    refine l_no rfl ?_
    refine l_no rfl ?_
    refine l_pickF (v := .bool _) rfl rfl rfl ?_
    refine l_pbool rfl rfl ?_
    refine l_pint rfl rfl ?_
    refine l_pbool rfl rfl ?_
    refine l_pbool rfl rfl ?_
    refine l_split 78 rfl (fun h78 => ?_) (fun h78 => ?_)
    · try simp only [sH] at h78
      refine l_pint rfl rfl ?_
      refine l_pint rfl rfl ?_
      refine l_pbool rfl rfl ?_
      refine l_pickT (v := .bool _) rfl rfl rfl ?_
      refine l_pickF (v := .bool _) rfl rfl rfl ?_
      refine l_nil ?_
      refine w_cond rfl (fun c8 => ?_) (fun c8 => ?_)
      · try simp only [sH] at c8
        refine w_seq ?_
        refine w_region ?_
        refine l_v rfl (q_loadN (vs := s.stp.cells ca cc) rfl ag_26 rfl rfl (H.cells 4 rfl)) ?_
        refine l_pslice rfl rfl ?_
        refine l_pint rfl rfl ?_
        refine l_pint rfl rfl ?_
        refine l_pint rfl rfl ?_
        first
          | refine b_store rfl sz_26 rfl rfl rfl rfl rfl H 1 rfl rfl (putL_all rfl) (fun w H => ?_)
          | refine b_store rfl sz_26 rfl rfl rfl rfl rfl H 3 rfl rfl (putL_all rfl) (fun w H => ?_)
          | refine b_store rfl sz_26 rfl rfl rfl rfl rfl H 6 rfl rfl (putL_all rfl) (fun w H => ?_)
          | refine b_store rfl sz_26 rfl rfl rfl rfl rfl H 8 rfl rfl (putL_all rfl) (fun w H => ?_)
        refine l_pslice rfl rfl ?_
        refine l_pint rfl rfl ?_
        refine l_pint rfl rfl ?_
        refine l_pint rfl rfl ?_
        refine l_nil ?_
        refine w_ret ?_
        refine finct4 rfl ag_26 rfl (by first | exact H.cells 0 rfl | exact H.cells 1 rfl | exact H.cells 2 rfl | exact H.cells 3 rfl | exact H.cells 4 rfl | exact H.cells 5 rfl | exact H.cells 6 rfl | exact H.cells 7 rfl | exact H.cells 8 rfl) rfl rfl rfl rfl ?_
        obtain ⟨ht1, ht2, ht3⟩ := hts
        have hrt : T.2.2.right = q := by rcases ht3 with h | h | h <;> omega
        rw [hRT]
        refine ⟨ca, cc, ta, tc, txs, ?_, by rw [ht2]; exact hev, htb, by omega, by rw [ht1]; exact St.pick [5, 1, 2] (pre := [_, _, _, _, _, _, _]) rfl H rfl⟩
        rw [ht1, hrt, hav0]
        try rfl
      try simp only [sH] at c8
      refine w_skip ?_
      refine w_seq ?_
      refine w_seq ?_
      refine w_region ?_
      refine l_pint rfl rfl ?_
      refine l_pbool rfl rfl ?_
      refine l_nil ?_
      refine w_cond rfl (fun c9 => ?_) (fun c9 => ?_)
      · try simp only [sH] at c9
        refine w_seq ?_
        refine w_drawT [7] [0] [(0, 1), (1, 0), (2, 0), (3, 0), (5, 0), (6, 0), (4, 2), (7, 2), (8, 0), (9, 0), (10, 0), (11, 0)] mixed (by kernel_rfl) (fun _ _ _ h => fin_panic h) H (fun H => ?_)
        refine r_v rfl rfl (fun w hS => q_loadN (vs := s.stp.cells ca cc) rfl ag_26 rfl rfl (hS.cells 4 rfl)) ?_
        refine r_pslice rfl rfl rfl ?_
        refine r_pslice rfl rfl rfl ?_
        refine r_pint rfl rfl rfl ?_
        refine r_pint rfl rfl rfl ?_
        refine r_pint rfl rfl rfl ?_
        refine r_do rfl ?_
        refine b_call rfl cb_81 rfl (right_r H (hr.up 7 rfl) rfl hcp (by omega) hlf) (fun v w hv => ?_)
        obtain ⟨rfl, H⟩ := hv
        refine l_nil ⟨fun _ _ => (by first | exact H | exact H.drop1 | exact H.drop1.drop1 | exact H.drop1.drop1.drop1), ?_⟩
        refine r_do rfl ?_
        first
          | refine b_store rfl sz_26 rfl rfl rfl rfl rfl H 1 rfl rfl (putL_all rfl) (fun w H => ?_)
          | refine b_store rfl sz_26 rfl rfl rfl rfl rfl H 3 rfl rfl (putL_all rfl) (fun w H => ?_)
          | refine b_store rfl sz_26 rfl rfl rfl rfl rfl H 6 rfl rfl (putL_all rfl) (fun w H => ?_)
          | refine b_store rfl sz_26 rfl rfl rfl rfl rfl H 8 rfl rfl (putL_all rfl) (fun w H => ?_)
        refine l_nil ⟨(fun h => nomatch h), ?_⟩
        refine r_pslice rfl rfl rfl ?_
        refine r_pint rfl rfl rfl ?_
        refine r_pint rfl rfl rfl ?_
        refine r_pint rfl rfl rfl ?_
        refine r_nil ?_
        refine w_ret ?_
        refine finct4 rfl ag_26 rfl (by first | exact H.cells 0 rfl | exact H.cells 1 rfl | exact H.cells 2 rfl | exact H.cells 3 rfl | exact H.cells 4 rfl | exact H.cells 5 rfl | exact H.cells 6 rfl | exact H.cells 7 rfl | exact H.cells 8 rfl) rfl rfl rfl rfl ?_
        obtain ⟨ht1, ht2, ht3⟩ := hts
        have hrt : T.2.2.right = (if q + (bodyR bs q).2.1 + 4 ≤ bs.length ∧ numB ((bs.drop (q + (bodyR bs q).2.1)).take 4) = (bodyR bs q).2.1 then q + (bodyR bs q).2.1 + 4 else q + (bodyR bs q).2.1) := by
          rcases ht3 with h | h | h
          · exfalso; omega
          · exact h.2.2
          exfalso; omega
        rw [hRT]
        refine ⟨ca, cc, ta, tc, txs, ?_, by rw [ht2]; exact hev, htb, by omega, by rw [ht1]; exact St.pick [5, 1, 2] (pre := [_, _, _, _, _, _, _]) rfl H rfl⟩
        rw [ht1, hrt, hav0]
        try rfl
      try simp only [sH] at c9
      refine w_skip ?_
      refine w_seq ?_
      refine w_region ?_
      refine l_v rfl (q_loadN (vs := s.stp.cells ca cc) rfl ag_26 rfl rfl (H.cells 4 rfl)) ?_
      refine l_pslice rfl rfl ?_
      refine l_pslice rfl rfl ?_
      refine l_v rfl (q_lenSlice rfl el_50 rfl) ?_
      first
        | refine b_store rfl sz_26 rfl rfl rfl rfl rfl H 1 rfl rfl (putL_all rfl) (fun w H => ?_)
        | refine b_store rfl sz_26 rfl rfl rfl rfl rfl H 3 rfl rfl (putL_all rfl) (fun w H => ?_)
        | refine b_store rfl sz_26 rfl rfl rfl rfl rfl H 6 rfl rfl (putL_all rfl) (fun w H => ?_)
        | refine b_store rfl sz_26 rfl rfl rfl rfl rfl H 8 rfl rfl (putL_all rfl) (fun w H => ?_)
      refine l_pslice rfl rfl ?_
      refine l_pint rfl rfl ?_
      refine l_pint rfl rfl ?_
      refine l_pint rfl rfl ?_
      refine l_nil ?_
      refine w_ret ?_
      refine finct4 rfl ag_26 rfl (by first | exact H.cells 0 rfl | exact H.cells 1 rfl | exact H.cells 2 rfl | exact H.cells 3 rfl | exact H.cells 4 rfl | exact H.cells 5 rfl | exact H.cells 6 rfl | exact H.cells 7 rfl | exact H.cells 8 rfl) rfl rfl rfl rfl ?_
      obtain ⟨ht1, ht2, ht3⟩ := hts
      have h0 : T.1 = 0 := by omega
      have hrt : T.2.2.right = bs.length := by rcases ht3 with h | h | h <;> omega
      rw [hRT]
      refine ⟨ca, cc, ta, tc, txs, ?_, by rw [ht2]; exact hev, htb, by omega, by rw [ht1]; exact St.pick [5, 1, 2] (pre := [_, _, _, _, _, _, _]) rfl H rfl⟩
      rw [ht1, hrt, hav0, hav1 h0, h0]
      try rfl
    try simp only [sH] at h78
    refine l_no rfl ?_
    refine l_no rfl ?_
    refine l_no rfl ?_
    refine l_pickF (v := .bool _) rfl rfl rfl ?_
    refine l_pickF (v := .bool _) rfl rfl rfl ?_
    refine l_nil ?_
    refine w_cond_f rfl ?_
    refine w_skip ?_
    refine w_seq ?_
    refine w_seq ?_
    refine w_region ?_
    refine l_pint rfl rfl ?_
    refine l_pbool rfl rfl ?_
    refine l_nil ?_
    refine w_cond rfl (fun c10 => ?_) (fun c10 => ?_)
    · try simp only [sH] at c10
      refine w_seq ?_
      refine w_drawT [7] [0] [(0, 1), (1, 0), (2, 0), (3, 0), (5, 0), (6, 0), (4, 2), (7, 2), (8, 0), (9, 0), (10, 0), (11, 0)] mixed (by kernel_rfl) (fun _ _ _ h => fin_panic h) H (fun H => ?_)
      refine r_v rfl rfl (fun w hS => q_loadN (vs := s.stp.cells ca cc) rfl ag_26 rfl rfl (hS.cells 4 rfl)) ?_
      refine r_pslice rfl rfl rfl ?_
      refine r_pslice rfl rfl rfl ?_
      refine r_pint rfl rfl rfl ?_
      refine r_pint rfl rfl rfl ?_
      refine r_pint rfl rfl rfl ?_
      refine r_do rfl ?_
      refine b_call rfl cb_81 rfl (right_r H (hr.up 7 rfl) rfl hcp (by omega) hlf) (fun v w hv => ?_)
      obtain ⟨rfl, H⟩ := hv
      refine l_nil ⟨fun _ _ => (by first | exact H | exact H.drop1 | exact H.drop1.drop1 | exact H.drop1.drop1.drop1), ?_⟩
      refine r_do rfl ?_
      first
        | refine b_store rfl sz_26 rfl rfl rfl rfl rfl H 1 rfl rfl (putL_all rfl) (fun w H => ?_)
        | refine b_store rfl sz_26 rfl rfl rfl rfl rfl H 3 rfl rfl (putL_all rfl) (fun w H => ?_)
        | refine b_store rfl sz_26 rfl rfl rfl rfl rfl H 6 rfl rfl (putL_all rfl) (fun w H => ?_)
        | refine b_store rfl sz_26 rfl rfl rfl rfl rfl H 8 rfl rfl (putL_all rfl) (fun w H => ?_)
      refine l_nil ⟨(fun h => nomatch h), ?_⟩
      refine r_pslice rfl rfl rfl ?_
      refine r_pint rfl rfl rfl ?_
      refine r_pint rfl rfl rfl ?_
      refine r_pint rfl rfl rfl ?_
      refine r_nil ?_
      refine w_ret ?_
      refine finct4 rfl ag_26 rfl (by first | exact H.cells 0 rfl | exact H.cells 1 rfl | exact H.cells 2 rfl | exact H.cells 3 rfl | exact H.cells 4 rfl | exact H.cells 5 rfl | exact H.cells 6 rfl | exact H.cells 7 rfl | exact H.cells 8 rfl) rfl rfl rfl rfl ?_
      obtain ⟨ht1, ht2, ht3⟩ := hts
      have hrt : T.2.2.right = (if q + (bodyR bs q).2.1 + 4 ≤ bs.length ∧ numB ((bs.drop (q + (bodyR bs q).2.1)).take 4) = (bodyR bs q).2.1 then q + (bodyR bs q).2.1 + 4 else q + (bodyR bs q).2.1) := by
        rcases ht3 with h | h | h
        · exfalso; omega
        · exact h.2.2
        exfalso; omega
      rw [hRT]
      refine ⟨ca, cc, ta, tc, txs, ?_, by rw [ht2]; exact hev, htb, by omega, by rw [ht1]; exact St.pick [5, 1, 2] (pre := [_, _, _, _, _, _, _]) rfl H rfl⟩
      rw [ht1, hrt, hav0]
      try rfl
    try simp only [sH] at c10
    refine w_skip ?_
    refine w_seq ?_
    refine w_region ?_
    refine l_v rfl (q_loadN (vs := s.stp.cells ca cc) rfl ag_26 rfl rfl (H.cells 4 rfl)) ?_
    refine l_pslice rfl rfl ?_
    refine l_pslice rfl rfl ?_
    refine l_v rfl (q_lenSlice rfl el_50 rfl) ?_
    first
      | refine b_store rfl sz_26 rfl rfl rfl rfl rfl H 1 rfl rfl (putL_all rfl) (fun w H => ?_)
      | refine b_store rfl sz_26 rfl rfl rfl rfl rfl H 3 rfl rfl (putL_all rfl) (fun w H => ?_)
      | refine b_store rfl sz_26 rfl rfl rfl rfl rfl H 6 rfl rfl (putL_all rfl) (fun w H => ?_)
      | refine b_store rfl sz_26 rfl rfl rfl rfl rfl H 8 rfl rfl (putL_all rfl) (fun w H => ?_)
    refine l_pslice rfl rfl ?_
    refine l_pint rfl rfl ?_
    refine l_pint rfl rfl ?_
    refine l_pint rfl rfl ?_
    refine l_nil ?_
    refine w_ret ?_
    refine finct4 rfl ag_26 rfl (by first | exact H.cells 0 rfl | exact H.cells 1 rfl | exact H.cells 2 rfl | exact H.cells 3 rfl | exact H.cells 4 rfl | exact H.cells 5 rfl | exact H.cells 6 rfl | exact H.cells 7 rfl | exact H.cells 8 rfl) rfl rfl rfl rfl ?_
    obtain ⟨ht1, ht2, ht3⟩ := hts
    have h0 : T.1 = 0 := by omega
    have hrt : T.2.2.right = bs.length := by rcases ht3 with h | h | h <;> omega
    rw [hRT]
    refine ⟨ca, cc, ta, tc, txs, ?_, by rw [ht2]; exact hev, htb, by omega, by rw [ht1]; exact St.pick [5, 1, 2] (pre := [_, _, _, _, _, _, _]) rfl H rfl⟩
    rw [ht1, hrt, hav0, hav1 h0, h0]
    try rfl
  try simp only [sH] at c4
  have hln := eventsR_len (bodyR bs q).1
  refine w_skip ?_
  refine w_seq ?_
  refine w_region ?_
  refine l_pslice rfl rfl ?_
  refine b_call rfl cb_82 rfl (getChunk_r H (RdIn.row 0 rfl) rfl hfcp (by omega)) (fun v w hv => ?_)
  obtain ⟨x, xa, xc, xs, rfl, hxs, H⟩ := hv
  refine l_ptup rfl rfl ?_
  refine l_pint rfl rfl ?_
  refine l_pslice rfl rfl ?_
  refine l_pbool rfl rfl ?_
  refine l_pint rfl rfl ?_
  refine l_pslice rfl rfl ?_
  refine l_pbool rfl rfl ?_
  refine l_nil ?_
  refine w_seq ?_
  refine w_seq ?_
  refine w_region ?_
  refine l_pbool rfl rfl ?_
  refine l_pbool rfl rfl ?_
  refine l_pbool rfl rfl ?_
  refine l_split 110 rfl (fun h110 => ?_) (fun h110 => ?_)
  · try simp only [sH] at h110
    have hev0 : (eventsR (bodyR bs q).1).2.2.2 = false := by simpa using h110
    refine l_no rfl ?_
    refine l_no rfl ?_
    refine l_no rfl ?_
    refine l_no rfl ?_
    refine l_pickT (v := .bool _) rfl rfl rfl ?_
    refine l_pbool rfl rfl ?_
    refine l_no rfl ?_
    refine l_no rfl ?_
    refine l_no rfl ?_
    refine l_no rfl ?_
    refine l_no rfl ?_
    refine l_no rfl ?_
    refine l_pickT (v := .bool _) rfl rfl rfl ?_
    refine l_pbool rfl rfl ?_
    refine l_no rfl ?_
    refine l_no rfl ?_
    refine l_no rfl ?_
    refine l_no rfl ?_
    refine l_no rfl ?_
    refine l_no rfl ?_
    refine l_no rfl ?_
    refine l_no rfl ?_
    refine l_no rfl ?_
    refine l_no rfl ?_
    refine l_no rfl ?_
    refine l_pickT (v := .bool _) rfl rfl rfl ?_
    refine l_nil ?_
    refine w_cond_t rfl ?_
    refine w_seq ?_
    refine w_region ?_
    refine l_v rfl (q_loadN (vs := s.stp.cells ca cc) rfl ag_26 rfl rfl (H.cells 6 rfl)) ?_
    refine l_pslice rfl rfl ?_
    refine l_pint rfl rfl ?_
    refine l_pint rfl rfl ?_
    first
      | refine b_store rfl sz_26 rfl rfl rfl rfl rfl H 1 rfl rfl (putL_all rfl) (fun w H => ?_)
      | refine b_store rfl sz_26 rfl rfl rfl rfl rfl H 3 rfl rfl (putL_all rfl) (fun w H => ?_)
      | refine b_store rfl sz_26 rfl rfl rfl rfl rfl H 6 rfl rfl (putL_all rfl) (fun w H => ?_)
      | refine b_store rfl sz_26 rfl rfl rfl rfl rfl H 8 rfl rfl (putL_all rfl) (fun w H => ?_)
    refine l_pslice rfl rfl ?_
    refine l_pint rfl rfl ?_
    refine l_pint rfl rfl ?_
    refine l_pint rfl rfl ?_
    refine l_nil ?_
    refine w_ret ?_
    refine finct4 rfl ag_26 rfl (by first | exact H.cells 0 rfl | exact H.cells 1 rfl | exact H.cells 2 rfl | exact H.cells 3 rfl | exact H.cells 4 rfl | exact H.cells 5 rfl | exact H.cells 6 rfl | exact H.cells 7 rfl | exact H.cells 8 rfl) rfl rfl rfl rfl ?_
    have hR := hrun.trans (loop_ref hb1 c4 (chunkR_no (us := txs.map Tx.bs) (.inl hev0)))
    rw [hR]
    exact ⟨ca, cc, ta, tc, txs, congrArg (fun z : Nat => Value.tuple #[_, _, _, _, I (z : Int)]) (if_neg (show ¬ (220 = 0) by decide)).symm, hev, htb, by omega, St.pick [7, 3, 4] (pre := [_, _, _, _, _, _, _, _, _]) rfl H rfl⟩
  try simp only [sH] at h110
  have hev1 : (eventsR (bodyR bs q).1).2.2.2 = true := by simpa using h110
  obtain ⟨hx1, hx2⟩ := hxs hev1
  have hxl : xs.length = (eventsR (bodyR bs q).1).2.1.length := by rw [← hln.2.1, ← hx2, List.length_map]
  have hln1 := hln.1
  have hxb : ∀ t ∈ xs, t.bs.length ≤ 32768 := fun t ht => hln.2.2.1 _ (by rw [← hx2]; exact List.mem_map_of_mem ht)
  have hx0 : 0 < xs.length := by have := hln.2.2.2 hev1; omega
  obtain ⟨xb, xo, hxa, hxc⟩ := tx_at ((H.rowInv (i := 0) rfl).2.2.2.2) hx0
  refine l_pint rfl rfl ?_
  refine l_pslice rfl rfl ?_
  refine l_v rfl (q_lenSlice rfl el_37 rfl) ?_
  refine l_pbool rfl rfl ?_
  refine l_pickF (v := .bool _) rfl rfl rfl ?_
  refine l_pbool rfl rfl ?_
  refine l_split 116 rfl (fun h116 => ?_) (fun h116 => ?_)
  · try simp only [sH] at h116
    refine l_no rfl ?_
    refine l_no rfl ?_
    refine l_no rfl ?_
    refine l_no rfl ?_
    refine l_no rfl ?_
    refine l_no rfl ?_
    refine l_pickT (v := .bool _) rfl rfl rfl ?_
    refine l_pbool rfl rfl ?_
    refine l_no rfl ?_
    refine l_no rfl ?_
    refine l_no rfl ?_
    refine l_no rfl ?_
    refine l_no rfl ?_
    refine l_no rfl ?_
    refine l_no rfl ?_
    refine l_no rfl ?_
    refine l_no rfl ?_
    refine l_no rfl ?_
    refine l_no rfl ?_
    refine l_pickT (v := .bool _) rfl rfl rfl ?_
    refine l_nil ?_
    refine w_cond_t rfl ?_
    refine w_seq ?_
    refine w_region ?_
    refine l_v rfl (q_loadN (vs := s.stp.cells ca cc) rfl ag_26 rfl rfl (H.cells 6 rfl)) ?_
    refine l_pslice rfl rfl ?_
    refine l_pint rfl rfl ?_
    refine l_pint rfl rfl ?_
    first
      | refine b_store rfl sz_26 rfl rfl rfl rfl rfl H 1 rfl rfl (putL_all rfl) (fun w H => ?_)
      | refine b_store rfl sz_26 rfl rfl rfl rfl rfl H 3 rfl rfl (putL_all rfl) (fun w H => ?_)
      | refine b_store rfl sz_26 rfl rfl rfl rfl rfl H 6 rfl rfl (putL_all rfl) (fun w H => ?_)
      | refine b_store rfl sz_26 rfl rfl rfl rfl rfl H 8 rfl rfl (putL_all rfl) (fun w H => ?_)
    refine l_pslice rfl rfl ?_
    refine l_pint rfl rfl ?_
    refine l_pint rfl rfl ?_
    refine l_pint rfl rfl ?_
    refine l_nil ?_
    refine w_ret ?_
    refine finct4 rfl ag_26 rfl (by first | exact H.cells 0 rfl | exact H.cells 1 rfl | exact H.cells 2 rfl | exact H.cells 3 rfl | exact H.cells 4 rfl | exact H.cells 5 rfl | exact H.cells 6 rfl | exact H.cells 7 rfl | exact H.cells 8 rfl) rfl rfl rfl rfl ?_
    have hR := hrun.trans (loop_ref hb1 c4 (chunkR_no (us := txs.map Tx.bs) (.inr (.inl (by show (eventsR _).1 ≠ s.evs.length; omega)))))
    rw [hR]
    exact ⟨ca, cc, ta, tc, txs, congrArg (fun z : Nat => Value.tuple #[_, _, _, _, I (z : Int)]) (if_neg (show ¬ (220 = 0) by decide)).symm, hev, htb, by omega, St.pick [7, 3, 4] (pre := [_, _, _, _, _, _, _, _, _]) rfl H rfl⟩
  try simp only [sH] at h116
  refine l_pslice rfl rfl ?_
  refine l_v rfl (q_lenSlice rfl el_37 rfl) ?_
  refine l_pslice rfl rfl ?_
  refine l_v rfl (q_lenSlice rfl el_37 rfl) ?_
  first | refine l_v rfl (q_add rfl rfl rfl (by simp only [inK]; omega)) ?_ | refine l_pint rfl rfl ?_
  refine l_pbool rfl rfl ?_
  refine l_pickF (v := .bool _) rfl rfl rfl ?_
  refine l_pbool rfl rfl ?_
  refine l_split 124 rfl (fun h124 => ?_) (fun h124 => ?_)
  · try simp only [sH] at h124
    refine l_no rfl ?_
    refine l_no rfl ?_
    refine l_no rfl ?_
    refine l_no rfl ?_
    refine l_no rfl ?_
    refine l_no rfl ?_
    refine l_no rfl ?_
    refine l_no rfl ?_
    refine l_no rfl ?_
    refine l_no rfl ?_
    refine l_no rfl ?_
    refine l_pickT (v := .bool _) rfl rfl rfl ?_
    refine l_nil ?_
    refine w_cond_t rfl ?_
    refine w_seq ?_
    refine w_region ?_
    refine l_v rfl (q_loadN (vs := s.stp.cells ca cc) rfl ag_26 rfl rfl (H.cells 6 rfl)) ?_
    refine l_pslice rfl rfl ?_
    refine l_pint rfl rfl ?_
    refine l_pint rfl rfl ?_
    first
      | refine b_store rfl sz_26 rfl rfl rfl rfl rfl H 1 rfl rfl (putL_all rfl) (fun w H => ?_)
      | refine b_store rfl sz_26 rfl rfl rfl rfl rfl H 3 rfl rfl (putL_all rfl) (fun w H => ?_)
      | refine b_store rfl sz_26 rfl rfl rfl rfl rfl H 6 rfl rfl (putL_all rfl) (fun w H => ?_)
      | refine b_store rfl sz_26 rfl rfl rfl rfl rfl H 8 rfl rfl (putL_all rfl) (fun w H => ?_)
    refine l_pslice rfl rfl ?_
    refine l_pint rfl rfl ?_
    refine l_pint rfl rfl ?_
    refine l_pint rfl rfl ?_
    refine l_nil ?_
    refine w_ret ?_
    refine finct4 rfl ag_26 rfl (by first | exact H.cells 0 rfl | exact H.cells 1 rfl | exact H.cells 2 rfl | exact H.cells 3 rfl | exact H.cells 4 rfl | exact H.cells 5 rfl | exact H.cells 6 rfl | exact H.cells 7 rfl | exact H.cells 8 rfl) rfl rfl rfl rfl ?_
    have hR := hrun.trans (loop_ref hb1 c4 (chunkR_no (us := txs.map Tx.bs) (.inr (.inr (.inl (by show 4096 < s.evs.length + _; omega))))))
    rw [hR]
    exact ⟨ca, cc, ta, tc, txs, congrArg (fun z : Nat => Value.tuple #[_, _, _, _, I (z : Int)]) (if_neg (show ¬ (220 = 0) by decide)).symm, hev, htb, by omega, St.pick [7, 3, 4] (pre := [_, _, _, _, _, _, _, _, _]) rfl H rfl⟩
  try simp only [sH] at h124
  refine l_pslice rfl rfl ?_
  refine l_v rfl (q_lenSlice rfl el_37 rfl) ?_
  refine l_pbool rfl rfl ?_
  refine l_pbool rfl rfl ?_
  refine l_split 128 rfl (fun h128 => ?_) (fun h128 => ?_)
  · try simp only [sH] at h128
    refine l_pslice rfl rfl ?_
    refine l_pslice rfl rfl ?_
    refine l_pslice rfl rfl ?_
    refine l_v rfl (q_indexSliceE 0 rfl el_37 rfl hxa rfl rfl hx0) ?_
    refine l_v rfl (q_load1 (v := xs[0].v) rfl c1_50 rfl (by rw [Nat.mul_one] at hxc ⊢; exact hxc)) ?_
    refine b_call rfl cb_83 rfl (fits_r H (RdIn.row 3 rfl) rfl (txs_segsF 4 rfl (fun t h => by have := htb t h; omega)) (by omega) rfl ((txs_segsF 1 rfl (fun t h => by have := hxb t h; omega)) xs[0] (List.getElem_mem hx0)).1 rfl (by have := hxb _ (List.getElem_mem hx0); omega)) (fun v w hv => ?_)
    obtain ⟨rfl, H⟩ := hv
    refine l_pickT (v := .bool _) rfl rfl rfl ?_
    refine l_pickF (v := .bool _) rfl rfl rfl ?_
    refine l_nil ?_
    refine w_cond rfl (fun c11 => ?_) (fun c11 => ?_)
    · try simp only [sH] at c11
      refine w_seq ?_
      refine w_region ?_
      refine l_v rfl (q_loadN (vs := s.stp.cells ca cc) rfl ag_26 rfl rfl (H.cells 6 rfl)) ?_
      refine l_pslice rfl rfl ?_
      refine l_pint rfl rfl ?_
      refine l_pint rfl rfl ?_
      first
        | refine b_store rfl sz_26 rfl rfl rfl rfl rfl H 1 rfl rfl (putL_all rfl) (fun w H => ?_)
        | refine b_store rfl sz_26 rfl rfl rfl rfl rfl H 3 rfl rfl (putL_all rfl) (fun w H => ?_)
        | refine b_store rfl sz_26 rfl rfl rfl rfl rfl H 6 rfl rfl (putL_all rfl) (fun w H => ?_)
        | refine b_store rfl sz_26 rfl rfl rfl rfl rfl H 8 rfl rfl (putL_all rfl) (fun w H => ?_)
      refine l_pslice rfl rfl ?_
      refine l_pint rfl rfl ?_
      refine l_pint rfl rfl ?_
      refine l_pint rfl rfl ?_
      refine l_nil ?_
      refine w_ret ?_
      refine finct4 rfl ag_26 rfl (by first | exact H.cells 0 rfl | exact H.cells 1 rfl | exact H.cells 2 rfl | exact H.cells 3 rfl | exact H.cells 4 rfl | exact H.cells 5 rfl | exact H.cells 6 rfl | exact H.cells 7 rfl | exact H.cells 8 rfl) rfl rfl rfl rfl ?_
      have hu : txs.map Tx.bs ≠ [] := fun h => by have := congrArg List.length h; rw [List.length_map] at this; simp at this; simp [this] at h128
      have hft := hli.fits hu xs[0].bs
      have hhd : (eventsR (bodyR bs q).1).2.2.1.headD [] = xs[0].bs := by rw [← hx2]; exact headD_get hx0
      have hR := hrun.trans (loop_ref hb1 c4 (chunkR_no (us := txs.map Tx.bs) (.inr (.inr (.inr ⟨hli.last0.2 hu, by rw [hhd]; show fitsN s.first s.last.length (sizeT s.last) _ = true; rw [← hft]; exact beq_iff_eq.2 c11⟩)))))
      rw [hR]
      exact ⟨ca, cc, ta, tc, txs, congrArg (fun z : Nat => Value.tuple #[_, _, _, _, I (z : Int)]) (if_neg (show ¬ (220 = 0) by decide)).symm, hev, htb, by omega, St.pick [7, 3, 4] (pre := [_, _, _, _, _, _, _, _, _]) rfl H rfl⟩
    try simp only [sH] at c11
    refine w_skip ?_
    refine w_seq ?_
    refine w_region ?_
    refine l_pslice rfl rfl ?_
    refine l_pint rfl rfl ?_
    refine b_buildSlice (cs := [I (q : Int)]) rfl el_58 ze_3 rfl rfl rfl H (fun b143 w H => ?_)
    refine b_append rfl el_58 ze_3 rfl rfl rfl H 6 rfl (Rd.mk (H.cells0 0 rfl)) rfl (fun u hu => by obtain rfl := List.mem_singleton.1 hu; rfl) ⟨by omega, by simp only [maxLen]; omega⟩ (fun a144 c144 w H => ?_)
    have H := H.drop1
    refine l_pslice rfl rfl ?_
    refine l_nil ?_
    refine w_seq ?_
    refine w_region ?_
    refine l_pslice rfl rfl ?_
    refine l_pslice rfl rfl ?_
    refine b_append rfl el_37 ze_50 rfl rfl rfl H 3 rfl ((H.rowInv (i := 0) rfl).2.2.2.2) (by rw [List.length_map, Nat.mul_one]) (oneTx _) ⟨by omega, by simp only [maxLen]; omega⟩ (fun a147 c147 w H => ?_)
    refine l_pslice rfl rfl ?_
    refine l_nil ?_
    refine w_region ?_
    refine l_pint rfl rfl ?_
    refine l_pint rfl rfl ?_
    refine l_nil ?_
    refine ⟨by repeat' first | exact aM | exact aR | refine aI rfl ?_ | refine aU rfl ?_ | refine aL rfl ?_, ?_⟩
    have hu : txs.map Tx.bs ≠ [] := fun h => by have := congrArg List.length h; rw [List.length_map] at this; simp at this; simp [this] at h128
    have hft := hli.fits hu xs[0].bs
    have hhd : (eventsR (bodyR bs q).1).2.2.1.headD [] = xs[0].bs := by rw [← hx2]; exact headD_get hx0
    obtain ⟨m', rfl⟩ : ∃ m', m = m' + 1 := ⟨m - 1, by omega⟩
    have hyes := chunkR_yes (s := { s with right := q }) (b := (bodyR bs q).1) (q := q) (by
      rintro (h | h | h | ⟨h, h2⟩)
      · rw [hev1] at h; cases h
      · exact h (by show (eventsR _).1 = s.evs.length; omega)
      · have h : 4096 < s.evs.length + (eventsR (bodyR bs q).1).2.1.length := h
        omega
      rw [hhd] at h2; exact c11 (beq_iff_eq.1 (hft.trans h2)))
    have hgo := hrun.trans (loop_go hb1 c4 hyes)
    have hev2 : (eventsR (bodyR bs q).1).2.1 = xs.map (fun t => (getEv t.bs).1) := by rw [evR_ev, ← hx2, List.map_map]; rfl
    have hli2 := (hli.setR q).next (b := (bodyR bs q).1) (q := q) (by rw [List.length_map]; exact hle) hgd.2.2.1 (by rw [hyes])
    rw [hyes, ← hx2, ← List.map_append] at hli2
    rw [← hx2] at hgo
    refine ⟨m', (q + (bodyR bs q).2.1, { s with right := q, first := (eventsR (bodyR bs q).1).1, last := xs.map Tx.bs, evs := s.evs ++ (eventsR (bodyR bs q).1).2.1, places := s.places ++ [q] }, a147, c147, txs ++ xs, a144, c144), by omega, ⟨rfl, by rw [List.length_append]; rfl, by show _ = Value.slice a144 (s.places ++ [q]).length c144; rw [List.length_append]; rfl, trivial⟩, by omega, hch.snoc hb1, hgo, ?_, ?_, hli2, ?_, ?_, ?_, ?_⟩
    · show _ = s.evs ++ (eventsR (bodyR bs q).1).2.1
      rw [List.map_append, hev, hev2]
    · intro t ht
      rcases List.mem_append.1 ht with ht | ht
      · exact htb t ht
      exact hxb t ht
    · show (s.evs ++ (eventsR (bodyR bs q).1).2.1).length ≤ 4096
      rw [List.length_append]; omega
    · show (s.places ++ [q]).length ≤ (s.evs ++ (eventsR (bodyR bs q).1).2.1).length
      rw [List.length_append, List.length_append, List.length_singleton]; omega
    · intro x hx
      rcases List.mem_append.1 (show x ∈ s.places ++ [q] from hx) with hx | hx
      · exact hpb x hx
      rw [List.mem_singleton.1 hx]; exact hql.2
    show St W w (row 50 1 a147 (txs ++ xs).length c147 ((txs ++ xs).map Tx.v) :: Segs ((txs ++ xs).map Tx.segF) :: row 3 1 a144 (s.places ++ [q]).length c144 (natsV (s.places ++ [q])) :: blk b10 (s.stp.cells ca cc) 26 :: row 36 1 ca s.stp.cls.length cc (intsV s.stp.cls) :: blk b2 (stp0.cells none 0) 26 :: F)
    rw [List.length_append, List.map_append, List.map_append, List.length_append]
    unfold natsV at H ⊢
    rw [List.map_append]
    exact St.pick [1, 0, 2, 3, 4, 5] (pre := [_, _, _, _, _, _]) rfl (St.twosegs.1 (St.pick [4, 1, 3, 5, 6, 7, 8] (pre := [_, _, _, _, _, _, _, _, _]) rfl H rfl)) rfl
  try simp only [sH] at h128
  refine l_no rfl ?_
  refine l_no rfl ?_
  refine l_no rfl ?_
  refine l_no rfl ?_
  refine l_no rfl ?_
  refine l_no rfl ?_
  refine l_pickF (v := .bool _) rfl rfl rfl ?_
  refine l_pickF (v := .bool _) rfl rfl rfl ?_
  refine l_nil ?_
  refine w_cond_f rfl ?_
  refine w_skip ?_
  refine w_seq ?_
  refine w_region ?_
  refine l_pslice rfl rfl ?_
  refine l_pint rfl rfl ?_
  refine b_buildSlice (cs := [I (q : Int)]) rfl el_58 ze_3 rfl rfl rfl H (fun b143 w H => ?_)
  refine b_append rfl el_58 ze_3 rfl rfl rfl H 6 rfl (Rd.mk (H.cells0 0 rfl)) rfl (fun u hu => by obtain rfl := List.mem_singleton.1 hu; rfl) ⟨by omega, by simp only [maxLen]; omega⟩ (fun a144 c144 w H => ?_)
  have H := H.drop1
  refine l_pslice rfl rfl ?_
  refine l_nil ?_
  refine w_seq ?_
  refine w_region ?_
  refine l_pslice rfl rfl ?_
  refine l_pslice rfl rfl ?_
  refine b_append rfl el_37 ze_50 rfl rfl rfl H 3 rfl ((H.rowInv (i := 0) rfl).2.2.2.2) (by rw [List.length_map, Nat.mul_one]) (oneTx _) ⟨by omega, by simp only [maxLen]; omega⟩ (fun a147 c147 w H => ?_)
  refine l_pslice rfl rfl ?_
  refine l_nil ?_
  refine w_region ?_
  refine l_pint rfl rfl ?_
  refine l_pint rfl rfl ?_
  refine l_nil ?_
  refine ⟨by repeat' first | exact aM | exact aR | refine aI rfl ?_ | refine aU rfl ?_ | refine aL rfl ?_, ?_⟩
  obtain ⟨m', rfl⟩ : ∃ m', m = m' + 1 := ⟨m - 1, by omega⟩
  have hyes := chunkR_yes (s := { s with right := q }) (b := (bodyR bs q).1) (q := q) (by
    rintro (h | h | h | ⟨h, h2⟩)
    · rw [hev1] at h; cases h
    · exact h (by show (eventsR _).1 = s.evs.length; omega)
    · have h : 4096 < s.evs.length + (eventsR (bodyR bs q).1).2.1.length := h
      omega
    exact (hli.last0.1 h) (List.map_eq_nil_iff.2 (List.length_eq_zero_iff.1 (by omega))))
  have hgo := hrun.trans (loop_go hb1 c4 hyes)
  have hev2 : (eventsR (bodyR bs q).1).2.1 = xs.map (fun t => (getEv t.bs).1) := by rw [evR_ev, ← hx2, List.map_map]; rfl
  have hli2 := (hli.setR q).next (b := (bodyR bs q).1) (q := q) (by rw [List.length_map]; exact hle) hgd.2.2.1 (by rw [hyes])
  rw [hyes, ← hx2, ← List.map_append] at hli2
  rw [← hx2] at hgo
  refine ⟨m', (q + (bodyR bs q).2.1, { s with right := q, first := (eventsR (bodyR bs q).1).1, last := xs.map Tx.bs, evs := s.evs ++ (eventsR (bodyR bs q).1).2.1, places := s.places ++ [q] }, a147, c147, txs ++ xs, a144, c144), by omega, ⟨rfl, by rw [List.length_append]; rfl, by show _ = Value.slice a144 (s.places ++ [q]).length c144; rw [List.length_append]; rfl, trivial⟩, by omega, hch.snoc hb1, hgo, ?_, ?_, hli2, ?_, ?_, ?_, ?_⟩
  · show _ = s.evs ++ (eventsR (bodyR bs q).1).2.1
    rw [List.map_append, hev, hev2]
  · intro t ht
    rcases List.mem_append.1 ht with ht | ht
    · exact htb t ht
    exact hxb t ht
  · show (s.evs ++ (eventsR (bodyR bs q).1).2.1).length ≤ 4096
    rw [List.length_append]; omega
  · show (s.places ++ [q]).length ≤ (s.evs ++ (eventsR (bodyR bs q).1).2.1).length
    rw [List.length_append, List.length_append, List.length_singleton]; omega
  · intro x hx
    rcases List.mem_append.1 (show x ∈ s.places ++ [q] from hx) with hx | hx
    · exact hpb x hx
    rw [List.mem_singleton.1 hx]; exact hql.2
  show St W w (row 50 1 a147 (txs ++ xs).length c147 ((txs ++ xs).map Tx.v) :: Segs ((txs ++ xs).map Tx.segF) :: row 3 1 a144 (s.places ++ [q]).length c144 (natsV (s.places ++ [q])) :: blk b10 (s.stp.cells ca cc) 26 :: row 36 1 ca s.stp.cls.length cc (intsV s.stp.cls) :: blk b2 (stp0.cells none 0) 26 :: F)
  rw [List.length_append, List.map_append, List.map_append, List.length_append]
  unfold natsV at H ⊢
  rw [List.map_append]
  exact St.pick [1, 0, 2, 3, 4, 5] (pre := [_, _, _, _, _, _]) rfl (St.twosegs.1 (St.pick [4, 1, 3, 5, 6, 7, 8] (pre := [_, _, _, _, _, _, _, _, _]) rfl H rfl)) rfl
end Go.Proofs.YtfpmnhmdphaceaaGreatDoor
