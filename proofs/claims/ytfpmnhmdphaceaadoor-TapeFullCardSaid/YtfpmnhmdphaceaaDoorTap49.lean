/- The walk of the law TapeFull ends in true, where the table of nibbles is laid. -/
import Derived.Test.YtfpmnhmdphaceaaDoorTapP15
import Derived.Test.YtfpmnhmdphaceaaDoorTap48
namespace Go.Proofs.YtfpmnhmdphaceaaDoor
open Go.EW
attribute [local irreducible] EW.W EW.L EW.fin block8 outB shaL
set_option linter.unusedVariables false
set_option linter.unusedSimpArgs false
attribute [local irreducible] crcN crcB crcL sealL openR sealR putEv getEv runR readR fileT fileL usedE addRT chkS chsOf posW addT newT
theorem TNew_any {W w : World} {F : List Seg} (hN : NibOk W) (H : St W w F) (s : Stp) (hso : StpOk s) {a : Option Addr} {c : Nat} (hr : RdIn W F a (intsV s.cls)) :
    Ok Tryd.prog 28 [.agg (s.cells a c).toArray].toArray w (fun r w' => ∃ pv, ∃ S, r = .tuple #[.pointer pv, I (chkS s : Int)] ∧ St W w' S) :=
  (TNew_ok hN H s hso hr).mono fun v w' h => by
    rcases h with ⟨_, rfl, h⟩ | ⟨h0, b, p, _, rfl, h⟩
    · exact ⟨none, _, rfl, h⟩
    exact ⟨some ⟨b, 0, none⟩, _, by rw [h0]; rfl, h⟩
theorem put_evt0 : (putEv evt0).2 = 150 := by kernel_rfl
theorem rep_v (tx : Tx) (n : Nat) : (List.replicate n tx).map Tx.v ++ [tx.v] = (List.replicate (n + 1) tx).map Tx.v := by
  rw [List.replicate_succ' (n := n) (a := tx), List.map_append]; rfl
theorem rep_v97 (tx : Tx) : (List.replicate 4096 tx).map Tx.v ++ [tx.v] = (List.replicate 4097 tx).map Tx.v := rep_v tx 4096
theorem pos129 (s : Stp) {us : List Txt} (h : (chsOf us).length = 129) : (posW s us).length = 131 ∧ ∀ (h : 129 < (posW s us).length), (posW s us)[129] = qOf (headF s) (chsOf us) 128 := by
  refine ⟨by rw [posW_len, h], fun h2 => ?_⟩
  have h3 := posW_q s us (j := 128) (by omega)
  rw [List.getElem?_eq_getElem h2] at h3
  exact Option.some.inj h3
attribute [local semireducible] addRT in
theorem addRT_full {t : TS} {e : Evt} (h : (putEv e).2 = 0) (hn : t.n = 4096) : addRT t e = (151, t) := by
  unfold addRT; rw [if_neg (by omega), if_pos (by omega)]
attribute [local semireducible] addRT in
theorem addRT_bad {t : TS} {e : Evt} {x : Nat} (h : (putEv e).2 = x) (hx : x ≠ 0) : addRT t e = (x, t) := by
  unfold addRT; rw [if_pos (by omega), h]
attribute [local semireducible] addRT in
theorem addRT_one {t : TS} {e : Evt} (h : (putEv e).2 = 0) (hn : t.n < 4096) : addRT t e = (0, addT t (putEv e).1) := by
  unfold addRT; rw [if_neg (by omega), if_neg (by omega)]
theorem rep_step (b : Txt) (t : TS) (i : Nat) : (List.replicate (i + 1) b).foldl addT t = addT ((List.replicate i b).foldl addT t) b := by
  rw [List.replicate_succ' (n := i) (a := b), List.foldl_append]; rfl
attribute [local semireducible] readR in
theorem read_bad {bs : Txt} {p x : Nat} {y : SS} (h : runR bs = (x, p, y)) (hx : x ≠ 0) : readR bs = (stp0, [], x, p) := by unfold readR; rw [h, if_pos hx]
/-- so many times the same -/
def reps {α : Type} (n : Nat) (x : α) : List α := List.replicate n x
theorem reps_zero {α : Type} (x : α) : reps 0 x = [] := rfl
theorem reps_succ {α : Type} (n : Nat) (a : α) : reps (n + 1) a = reps n a ++ [a] := List.replicate_succ'
theorem reps_len {α : Type} {n : Nat} {x : α} : (reps n x).length = n := List.length_replicate
theorem reps_map {α β : Type} {n : Nat} {x : α} {f : α → β} : (reps n x).map f = reps n (f x) := List.map_replicate
theorem mem_reps {α : Type} {n : Nat} {x y : α} (h : y ∈ reps n x) : y = x := (List.mem_replicate.1 h).2
theorem reps_taken {b : Txt} (s : Stp) (n : Nat) : ((reps n b).foldl addT (newT s)).n = n := rep_taken s n
theorem reps_v97 (tx : Tx) : (reps 4096 tx).map Tx.v ++ [tx.v] = (reps 4097 tx).map Tx.v := rep_v97 tx
theorem reps_step (b : Txt) (t : TS) (i : Nat) : (reps (i + 1) b).foldl addT t = addT ((reps i b).foldl addT t) b := rep_step b t i
theorem good_reps {b : Txt} (hb : b.length ≤ 100) (hg : (getEv b).2 = 0) (n : Nat) : TsOk (reps n b) := good_rep hb hg n
theorem full_reps {b : Txt} (hb : b.length ≤ 100) : (chsOf (reps 4097 b))[128]? = some [b] ∧ (chsOf (reps 4097 b)).length = 129 ∧ cnt ((chsOf (reps 4097 b)).take 128) = 4096 := full_chunk hb
set_option maxRecDepth 8000 in
set_option maxHeartbeats 1000000 in
theorem TapeFull_bad {W w : World} {F : List Seg} (hN : NibOk W) (H : St W w F) (s : Stp) (hso : StpOk s) {a : Option Addr} {c : Nat} (hr : RdIn W F a (intsV s.cls)) (e : Evt) (he : EvOk e) {ea : Option Addr} {ec : Nat} (hre : RdIn W F ea (e.bs.map B)) (hbad : (putEv e).2 ≠ 0 ∨ chkS s ≠ 0 ∨ 100 < (putEv e).1.length) :
    Ok Tryd.prog 6 [.agg (s.cells a c).toArray, .agg (e.cells ea ec).toArray].toArray w (fun r w' => r = .bool true ∧ ∃ S, St W w' S) := by
  refine enter (n := 158) (rs := #[.tmp 4]) Tryd.func6 rfl rfl rfl rfl ?_
  refine w_seq ?_
  refine w_region ?_
  refine b_box (cs := s.cells a c) rfl rfl rfl H (fun b2 w H => ?_)
  refine b_box (cs := e.cells ea ec) rfl rfl rfl H (fun b3 w H => ?_)
  refine l_pbool rfl rfl ?_
  refine l_nil ?_
  refine w_seq ?_
  refine w_region ?_
  refine l_v rfl (q_loadN (vs := e.cells ea ec) rfl ag_30 rfl rfl (H.cells 0 rfl)) ?_
  refine b_call rfl cb_11 rfl (PutEvent_ok H e he (hre.up 2 rfl)) (fun v w hv => ?_)
  obtain ⟨pa, pc, rfl, H⟩ := hv
  refine l_ptup rfl rfl ?_
  refine l_pslice rfl rfl ?_
  refine l_pint rfl rfl ?_
  refine l_pslice rfl rfl ?_
  refine l_pint rfl rfl ?_
  refine l_nil ?_
  refine w_seq ?_
  refine w_region ?_
  refine l_v rfl (q_loadN (vs := s.cells a c) rfl ag_56 rfl rfl (H.cells 2 rfl)) ?_
  refine b_call rfl cb_28 rfl (TNew_any hN H s hso (hr.up 3 rfl)) (fun v w hv => ?_)
  obtain ⟨pv, S', rfl, H⟩ := hv
  refine l_ptup rfl rfl ?_
  refine l_pptr rfl rfl ?_
  refine l_pint rfl rfl ?_
  refine l_pptr rfl rfl ?_
  refine l_pint rfl rfl ?_
  refine l_nil ?_
  refine w_seq ?_
  refine w_seq ?_
  refine w_region ?_
  refine l_pint rfl rfl ?_
  refine l_pbool rfl rfl ?_
  refine l_pbool rfl rfl ?_
  refine l_split 36 rfl (fun h36 => ?_) (fun h36 => ?_)
  · try simp only [sH] at h36
    refine l_no rfl ?_
    refine l_no rfl ?_
    refine l_pickT (v := .bool _) rfl rfl rfl ?_
    refine l_pbool rfl rfl ?_
    refine l_no rfl ?_
    refine l_no rfl ?_
    refine l_no rfl ?_
    refine l_pickT (v := .bool _) rfl rfl rfl ?_
    refine l_nil ?_
    refine w_cond_t rfl ?_
    refine w_seq ?_
    refine w_region ?_
    refine b_call rfl cb_19 rfl (works_ok hN H) (fun v w hv => ?_)
    obtain ⟨rfl, H⟩ := hv
    refine l_pbool rfl rfl ?_
    refine l_nil ?_
    refine w_ret ?_
    refine fin1 (v := .bool _) rfl ?_
    exact ⟨rfl, _, H⟩
  try simp only [sH] at h36
  refine l_pint rfl rfl ?_
  refine l_pbool rfl rfl ?_
  refine l_pickF (v := .bool _) rfl rfl rfl ?_
  refine l_pbool rfl rfl ?_
  refine l_split 40 rfl (fun h40 => ?_) (fun h40 => ?_)
  · try simp only [sH] at h40
    refine l_no rfl ?_
    refine l_no rfl ?_
    refine l_no rfl ?_
    refine l_pickT (v := .bool _) rfl rfl rfl ?_
    refine l_nil ?_
    refine w_cond_t rfl ?_
    refine w_seq ?_
    refine w_region ?_
    refine b_call rfl cb_19 rfl (works_ok hN H) (fun v w hv => ?_)
    obtain ⟨rfl, H⟩ := hv
    refine l_pbool rfl rfl ?_
    refine l_nil ?_
    refine w_ret ?_
    refine fin1 (v := .bool _) rfl ?_
    exact ⟨rfl, _, H⟩
  try simp only [sH] at h40
  refine l_pslice rfl rfl ?_
  refine l_v rfl (q_lenSlice rfl el_28 rfl) ?_
  refine l_pbool rfl rfl ?_
  refine l_pickF (v := .bool _) rfl rfl rfl ?_
  refine l_nil ?_
  refine w_cond rfl (fun c1 => ?_) (fun c1 => ?_)
  · try simp only [sH] at c1
    refine w_seq ?_
    refine w_region ?_
    refine b_call rfl cb_19 rfl (works_ok hN H) (fun v w hv => ?_)
    obtain ⟨rfl, H⟩ := hv
    refine l_pbool rfl rfl ?_
    refine l_nil ?_
    refine w_ret ?_
    refine fin1 (v := .bool _) rfl ?_
    exact ⟨rfl, _, H⟩
  try simp only [sH] at c1
  omega
attribute [local irreducible] reps
set_option maxRecDepth 8000 in
set_option maxHeartbeats 2000000 in
theorem TapeFull_good {W w : World} {F : List Seg} (hN : NibOk W) (H : St W w F) (s : Stp) (hso : StpOk s) {a : Option Addr} {c : Nat} (hr : RdIn W F a (intsV s.cls)) (e : Evt) (he : EvOk e) {ea : Option Addr} {ec : Nat} (hre : RdIn W F ea (e.bs.map B)) (he0 : (putEv e).2 = 0) (hc : chkS s = 0) (hbl : (putEv e).1.length ≤ 100) :
    Ok Tryd.prog 6 [.agg (s.cells a c).toArray, .agg (e.cells ea ec).toArray].toArray w (fun r w' => r = .bool true ∧ ∃ S, St W w' S) := by
  have hrl : ∀ n, ∀ t ∈ reps n (putEv e).1, t.length ≤ 20000 := fun n t ht => by rw [(mem_reps ht)]; omega
  have hge := (bytes_one he he0).1
  have hfile := (file_all s (reps 4096 (putEv e).1)).1
  have hT := tok_all s (hrl 4096) (by rw [reps_len]; omega)
  obtain ⟨hc7, hl7, hn7⟩ := full_reps hbl
  obtain ⟨yy, hrun7, hyr, hyl⟩ := run_over hc hso (hrl 4097) (good_reps hbl hge 4097).goodT hc7 hn7
  have hread7 := read_bad hrun7 (by decide)
  obtain ⟨hpl, hp129⟩ := pos129 s hl7
  refine enter (n := 158) (rs := #[.tmp 4]) Tryd.func6 rfl rfl rfl rfl ?_
  refine w_seq ?_
  refine w_region ?_
  refine b_box (cs := s.cells a c) rfl rfl rfl H (fun b2 w H => ?_)
  refine b_box (cs := e.cells ea ec) rfl rfl rfl H (fun b3 w H => ?_)
  refine l_pbool rfl rfl ?_
  refine l_nil ?_
  refine w_seq ?_
  refine w_region ?_
  refine l_v rfl (q_loadN (vs := e.cells ea ec) rfl ag_30 rfl rfl (H.cells 0 rfl)) ?_
  refine b_call rfl cb_11 rfl (PutEvent_ok H e he (hre.up 2 rfl)) (fun v w hv => ?_)
  obtain ⟨pa, pc, rfl, H⟩ := hv
  refine l_ptup rfl rfl ?_
  refine l_pslice rfl rfl ?_
  refine l_pint rfl rfl ?_
  refine l_pslice rfl rfl ?_
  refine l_pint rfl rfl ?_
  refine l_nil ?_
  refine w_seq ?_
  refine w_region ?_
  refine l_v rfl (q_loadN (vs := s.cells a c) rfl ag_56 rfl rfl (H.cells 2 rfl)) ?_
  refine b_call rfl cb_28 rfl (TNew_ok hN H s hso (hr.up 3 rfl)) (fun v w hv => ?_)
  obtain ⟨h, -⟩ | ⟨-, tb, p0, hp0, rfl, H⟩ := hv
  · exact absurd hc h
  have hq0 : p0.ts = ((reps 0 (putEv e).1).foldl addT (newT s)).texts := by unfold TP.ts; rw [hp0, reps_zero, List.foldl_nil]; exact (newT_nil s).symm
  refine l_ptup rfl rfl ?_
  refine l_pptr rfl rfl ?_
  refine l_pint rfl rfl ?_
  refine l_pptr rfl rfl ?_
  refine l_pint rfl rfl ?_
  refine l_nil ?_
  refine w_seq ?_
  refine w_seq ?_
  refine w_region ?_
  refine l_pint rfl rfl ?_
  refine l_pbool rfl rfl ?_
  refine l_pbool rfl rfl ?_
  refine l_split 36 rfl (fun h36 => absurd h36 (by simp [he0])) (fun h36 => ?_)
  try simp only [sH] at h36
  refine l_pint rfl rfl ?_
  refine l_pbool rfl rfl ?_
  refine l_pickF (v := .bool _) rfl rfl rfl ?_
  refine l_pbool rfl rfl ?_
  refine l_split 40 rfl (fun h40 => absurd h40 (by simp)) (fun h40 => ?_)
  try simp only [sH] at h40
  refine l_pslice rfl rfl ?_
  refine l_v rfl (q_lenSlice rfl el_28 rfl) ?_
  refine l_pbool rfl rfl ?_
  refine l_pickF (v := .bool _) rfl rfl rfl ?_
  refine l_nil ?_
  refine w_cond rfl (fun c1 => ?_) (fun c1 => ?_)
  · try simp only [sH] at c1
    omega
  try simp only [sH] at c1
  refine w_skip ?_
  refine w_seq ?_
  refine w_region ?_
  refine l_pslice rfl rfl ?_
  refine l_nil ?_
  refine w_seq ?_
  refine w_seq ?_
  refine w_region ?_
  refine l_pint rfl rfl ?_
  refine l_nil ?_
  refine w_block ?_
  refine w_loopG (G := Nat × TP × Option Addr × Nat) [4, 9, 10, 46, 47, 48, 49, 50, 51, 52, 53, 54, 55, 56, 57] (fun ⟨i, q, xa, xc⟩ => [(9, .slice xa i xc), (10, I (i : Int))]) (fun m ⟨i, q, xa, xc⟩ w => m + i = 4096 ∧ q.ts = ((reps i (putEv e).1).foldl addT (newT s)).texts ∧ St W w (tapeL tb q ((reps i (putEv e).1).foldl addT (newT s)) (row 28 1 xa i xc ((reps i (⟨pa, pc, (putEv e).1⟩ : Tx)).map Tx.v) :: row 5 1 pa (putEv e).1.length pc ((putEv e).1.map B) :: blk b3 (e.cells ea ec) 30 :: blk b2 (s.cells a c) 56 :: F))) (fun _ => rfl) ?_ ?_
  · refine ⟨4096, (0, p0, none, 0), ⟨rfl, rfl, trivial⟩, rfl, hq0, ?_⟩
    rw [reps_zero, reps_zero, List.map_nil, List.foldl_nil]
    exact St.pick [1, 2, 3, 4, 5, 0, 6, 7, 8] (pre := [_, _, _, _, _, _, _, _, _]) rfl (St.newRow (T := 28) (sz := 1) H) rfl
  rintro m ⟨i, q, xa, xc⟩ ρ1 w ⟨hmi, hqt, H⟩
  refine w_seq ?_
  refine w_seq ?_
  refine w_region ?_
  refine l_pint rfl rfl ?_
  refine l_pbool rfl rfl ?_
  refine l_nil ?_
  refine w_cond rfl (fun c2 => ?_) (fun c2 => ?_)
  · try simp only [sH] at c2
    refine w_skip ?_
    refine w_seq ?_
    refine w_block ?_
    refine w_seq ?_
    refine w_seq ?_
    refine w_region ?_
    refine l_pptr rfl rfl ?_
    refine l_v rfl (q_loadN (vs := e.cells ea ec) rfl ag_30 rfl rfl (H.cells 7 rfl)) ?_
    refine b_call rfl cb_29 rfl (TAdd_ok hN H (tok_all s (hrl i) (by rw [reps_len]; omega)).ok hqt e he (hre.up 4 rfl)) (fun v w hv => ?_)
    obtain ⟨q', hqt', hr5, H⟩ := hv
    rw [addRT_one he0 (by rw [reps_taken]; omega)] at hqt' hr5 H
    subst hr5
    refine l_pbool rfl rfl ?_
    refine l_nil ?_
    refine w_cond rfl (fun c3 => ?_) (fun c3 => ?_)
    · try simp only [sH] at c3
      exact absurd c3 (by simp)
    try simp only [sH] at c3
    refine w_skip ?_
    refine w_region ?_
    refine l_pslice rfl rfl ?_
    refine l_pslice rfl rfl ?_
    refine b_buildSlice (cs := [.slice pa (putEv e).1.length pc]) rfl el_31 ze_28 rfl rfl rfl H (fun b56 w H => ?_)
    refine b_append rfl el_31 ze_28 rfl rfl rfl H 6 rfl (Rd.mk (H.cells0 0 rfl)) rfl (fun u hu => by obtain rfl := List.mem_singleton.1 hu; rfl) ⟨by omega, by simp only [maxLen]; omega⟩ (fun a57 c57 w H => ?_)
    have H := H.drop1
    refine l_pslice rfl rfl ?_
    refine l_nil ?_
    refine w_region ?_
    refine l_pint rfl rfl ?_
    first | refine l_v rfl (q_add rfl rfl rfl (by simp only [inK]; omega)) ?_ | refine l_pint rfl rfl ?_
    refine l_pint rfl rfl ?_
    refine l_nil ?_
    refine ⟨by repeat' first | exact aM | exact aR | refine aI rfl ?_ | refine aU rfl ?_ | refine aL rfl ?_, ?_⟩
    refine ⟨m - 1, (i + 1, q', a57, c57), by omega, ⟨rfl, by exact congrArg (Value.int IntKind.i64) (Int.natCast_succ i).symm, trivial⟩, by omega, by rw [reps_step]; exact hqt', ?_⟩
    rw [reps_step, reps_succ (n := i) (a := (⟨pa, pc, (putEv e).1⟩ : Tx)), List.map_append]
    exact H
  try simp only [sH] at c2
  obtain rfl : i = 4096 := by omega
  have hTn := reps_taken (b := (putEv e).1) s 4096
  generalize (reps 4096 (putEv e).1).foldl addT (newT s) = T4 at *
  have hxc := (H.rowInv (i := 5) rfl).2.1
  refine w_exit ?_
  refine w_seq ?_
  refine w_region ?_
  refine l_v rfl (q_loadN (vs := s.cells a c) rfl ag_56 rfl rfl (H.cells 8 rfl)) ?_
  refine l_pslice rfl rfl ?_
  refine b_call rfl cb_30 rfl (Write_r (ts := reps 4096 (⟨pa, pc, (putEv e).1⟩ : Tx)) H s hso hc (hr.up 9 rfl) (RdIn.row 5 rfl) reps_len (by rw [reps_len]; exact hxc) (fun t ht => by rw [(mem_reps ht)]; exact ⟨RdIn.row 6 rfl, by show (putEv e).1.length ≤ _; omega⟩) (by rw [reps_map]; exact hrl 4096) (by rw [reps_len]; omega)) (fun v w hv => ?_)
  obtain ⟨fa, fc, wa, wc, rfl, H⟩ := hv
  rw [reps_map] at H ⊢
  try rw [show (⟨pa, pc, (putEv e).1⟩ : Tx).bs = (putEv e).1 from rfl] at H
  try rw [show (⟨pa, pc, (putEv e).1⟩ : Tx).bs = (putEv e).1 from rfl]
  have H := St.pick [2, 3, 4, 5, 6, 0, 7, 8, 9, 10] (pre := [_, _, _, _, _, _, _, _, _, _, _]) rfl H rfl
  refine l_ptup rfl rfl ?_
  refine l_pslice rfl rfl ?_
  refine l_pslice rfl rfl ?_
  refine l_pslice rfl rfl ?_
  refine l_pslice rfl rfl ?_
  refine l_nil ?_
  refine w_seq ?_
  refine w_seq ?_
  refine w_drawX [] [1, 20] 5 [(0, 0), (1, 1), (2, 2), (3, 0), (4, 0), (5, 0), (6, 0), (7, 2), (8, 0), (9, 0), (10, 0), (11, 0), (12, 2), (13, 0), (14, 0), (15, 0), (16, 0), (19, 0), (20, 1), (17, 2), (18, 2), (21, 0), (22, 0)] mixed (by kernel_rfl) (fun _ _ _ h => fin_panic h) H (fun H => ?_)
  refine r_pptr rfl rfl rfl ?_
  refine r_v rfl rfl (fun w hS => q_loadN (vs := e.cells ea ec) rfl ag_30 rfl rfl (hS.cells 3 rfl)) ?_
  refine r_do rfl ?_
  refine b_call rfl cb_29 rfl (TAdd_ok hN H hT.ok hqt e he (hre.up 5 rfl)) (fun v w hv => ?_)
  obtain ⟨q2, hq2, hr6, H⟩ := hv
  rw [addRT_full he0 hTn] at hq2 hr6 H
  simp only [] at hq2 H
  subst hr6
  refine l_nil ⟨fun _ _ => (by first | exact Sx.tl H 5 rfl | exact Sx.tl H 6 rfl), ?_⟩
  refine r_pbool rfl rfl rfl ?_
  refine r_pbool rfl rfl rfl ?_
  refine r_split 68 rfl (fun h68 => absurd h68 (by simp)) (fun h68 => ?_)
  try simp only [sH] at h68
  refine r_pptr rfl rfl rfl ?_
  refine r_w rfl rfl (fun w => q_build (cs := evt0.cells none 0) rfl sp_30 rfl) ?_
  refine r_do rfl ?_
  refine b_call rfl cb_29 rfl (TAdd_ok hN H hT.ok hq2 evt0 evt0_ok RdIn.nil) (fun v w hv => ?_)
  obtain ⟨q3, hq3, hr7, H⟩ := hv
  rw [addRT_bad put_evt0 (by decide)] at hq3 hr7 H
  simp only [] at hq3 H
  subst hr7
  refine l_nil ⟨fun _ _ => (by first | exact Sx.tl H 5 rfl | exact Sx.tl H 6 rfl), ?_⟩
  refine r_pbool rfl rfl rfl ?_
  refine r_pickF (v := .bool _) rfl rfl rfl rfl ?_
  refine r_pbool rfl rfl rfl ?_
  refine r_split 74 rfl (fun h74 => absurd h74 (by simp)) (fun h74 => ?_)
  try simp only [sH] at h74
  refine r_pptr rfl rfl rfl ?_
  refine r_do rfl ?_
  refine b_call rfl cb_31 rfl (TLen_ok H) (fun v w hv => ?_)
  obtain ⟨rfl, H⟩ := hv
  refine l_nil ⟨fun _ _ => (by first | exact Sx.tl H 5 rfl | exact Sx.tl H 6 rfl), ?_⟩
  refine r_pbool rfl rfl rfl ?_
  refine r_pickF (v := .bool _) rfl rfl rfl rfl ?_
  refine r_pbool rfl rfl rfl ?_
  refine r_split 79 rfl (fun h79 => absurd h79 (by rw [hTn]; simp)) (fun h79 => ?_)
  try simp only [sH] at h79
  refine r_pptr rfl rfl rfl ?_
  refine r_pslice rfl rfl rfl ?_
  refine r_v rfl rfl (fun w hS => q_bytesStr (bs := fileL s (reps 4096 (putEv e).1)) rfl by_28 st_9 rfl (hS.rd 0 rfl) rfl) ?_
  refine r_do rfl ?_
  refine b_call rfl cb_23 rfl (TBytes_ok hN H hT.ok hq3 hT.pl) (fun v w hv => ?_)
  obtain ⟨ga, gc, hr8, H⟩ := hv
  rw [hfile] at hr8 H
  subst hr8
  refine l_nil ⟨fun _ _ => (by first | exact Sx.tl H 5 rfl | exact Sx.tl H 6 rfl), ?_⟩
  refine r_do rfl ?_
  refine l_v rfl (q_bytesStr (bs := fileL s (reps 4096 (putEv e).1)) rfl by_28 st_9 rfl ((H.rowInv (i := 0) rfl).2.2.2.2) rfl) ?_
  refine l_nil ⟨fun _ _ => (by first | exact Sx.tl H 5 rfl | exact Sx.tl H 6 rfl), ?_⟩
  refine r_w rfl rfl (fun w => q_pure (s_neq rfl rfl)) ?_
  refine r_pickF (v := .bool _) rfl rfl rfl rfl ?_
  refine r_nil ?_
  refine w_cond rfl (fun c4 => ?_) (fun c4 => ?_)
  · try simp only [sH] at c4
    exact absurd c4 (by simp)
  try simp only [sH] at c4
  refine w_skip ?_
  refine w_seq ?_
  refine w_region ?_
  refine l_pslice rfl rfl ?_
  refine b_call rfl cb_20 rfl (Read_ok (bs := (fileL s (reps 4096 (putEv e).1))) hN H (RdIn.row 6 rfl) rfl (H.rowInv (i := 6) rfl).2.1 (file_over_len s (hrl 4096) (by rw [reps_len]; omega))) (fun v w hv => ?_)
  obtain ⟨ra, rc, ca, cc, es1, hes1, hr9, H⟩ := hv
  rw [read_file hc hso (good_reps hbl hge 4096) (by rw [reps_len]; omega)] at hes1 hr9 H
  subst hr9
  have hl1 : es1.length = 4096 := by rw [← List.length_map (f := EvM.e), hes1, List.length_map, reps_len]
  refine l_ptup rfl rfl ?_
  refine l_pagg rfl rfl ?_
  refine l_pslice rfl rfl ?_
  refine l_pint rfl rfl ?_
  refine l_pint rfl rfl ?_
  refine b_alloc (cs := stp0.cells none 0) rfl ze_56 rfl H (fun b13 w H => ?_)
  refine b_store (cs' := s.cells ca cc) rfl sz_56 rfl rfl rfl rfl rfl H 0 rfl rfl (putL_all rfl) (fun w H => ?_)
  have hxc2 := (H.rowInv (i := 11) rfl).2.1
  have H := St.pick [11, 12, 13, 14] (pre := [_, _, _, _, _, _, _, _, _, _, _, _, _, _, _]) rfl H rfl
  refine l_pslice rfl rfl ?_
  refine l_pint rfl rfl ?_
  refine l_pint rfl rfl ?_
  refine l_nil ?_
  refine w_seq ?_
  refine w_seq ?_
  refine w_region ?_
  refine l_pint rfl rfl ?_
  refine l_pbool rfl rfl ?_
  refine l_pbool rfl rfl ?_
  refine l_split 96 rfl (fun h96 => absurd h96 (by simp)) (fun h96 => ?_)
  try simp only [sH] at h96
  refine l_pslice rfl rfl ?_
  refine l_v rfl (q_lenSlice rfl el_57 rfl) ?_
  refine l_pbool rfl rfl ?_
  refine l_pickF (v := .bool _) rfl rfl rfl ?_
  refine l_nil ?_
  refine w_cond rfl (fun c5 => ?_) (fun c5 => ?_)
  · try simp only [sH] at c5
    exact absurd c5 (by rw [hl1]; simp)
  try simp only [sH] at c5
  refine w_skip ?_
  refine w_seq ?_
  refine w_drawX [5] [0] 1 [(0, 1), (1, 0), (2, 0), (3, 2), (4, 2), (5, 2), (6, 0), (7, 0), (8, 0), (9, 0), (10, 0)] mixed (by kernel_rfl) (fun _ _ _ h => fin_panic h) H (fun H => ?_)
  refine r_v rfl rfl (fun w hS => q_loadN (vs := s.cells a c) rfl ag_56 rfl rfl (hS.cells 2 rfl)) ?_
  refine r_pslice rfl rfl rfl ?_
  refine r_pslice rfl rfl rfl ?_
  refine r_do rfl ?_
  refine b_buildSlice (cs := [.slice pa (putEv e).1.length pc]) rfl el_31 ze_28 rfl rfl rfl H (fun b105 w H => ?_)
  refine l_nil ⟨fun _ _ => (show Sx W (row 5 1 pa (putEv e).1.length pc ((putEv e).1.map B) :: blk b3 (e.cells ea ec) 30 :: blk b2 (s.cells a c) 56 :: F) _ from Sx.tl H 2 rfl), ?_⟩
  refine r_do rfl ?_
  refine b_append rfl el_31 ze_28 rfl rfl rfl H 1 rfl (Rd.mk (H.cells0 0 rfl)) rfl (fun u hu => by obtain rfl := List.mem_singleton.1 hu; rfl) ⟨by omega, by simp only [maxLen]; omega⟩ (fun a106 c106 w H => ?_)
  have H := H.drop1
  have hr97 : (reps 4096 (⟨pa, pc, (putEv e).1⟩ : Tx)).map Tx.v ++ [.slice pa (putEv e).1.length pc] = (reps 4097 (⟨pa, pc, (putEv e).1⟩ : Tx)).map Tx.v := reps_v97 (⟨pa, pc, (putEv e).1⟩ : Tx)
  have H : St W w (row 28 1 a106 (4096 + 1) c106 ((reps 4097 (⟨pa, pc, (putEv e).1⟩ : Tx)).map Tx.v) :: row 5 1 pa (putEv e).1.length pc ((putEv e).1.map B) :: blk b3 (e.cells ea ec) 30 :: blk b2 (s.cells a c) 56 :: F) := by
    rw [← hr97]
    exact H
  have hxc2 := (H.rowInv (i := 0) rfl).2.1
  refine l_nil ⟨fun _ _ => (show Sx W (row 5 1 pa (putEv e).1.length pc ((putEv e).1.map B) :: blk b3 (e.cells ea ec) 30 :: blk b2 (s.cells a c) 56 :: F) _ from Sx.tl H 1 rfl), ?_⟩
  refine r_do rfl ?_
  refine b_call rfl cb_30 rfl (Write_r (ts := reps 4097 (⟨pa, pc, (putEv e).1⟩ : Tx)) H s hso hc (hr.up 4 rfl) (RdIn.row 0 rfl) reps_len (by rw [reps_len]; omega) (fun t ht => by rw [(mem_reps ht)]; exact ⟨RdIn.row 1 rfl, by show (putEv e).1.length ≤ _; omega⟩) (by rw [reps_map]; exact hrl 4097) (by rw [reps_len]; omega)) (fun v w hv => ?_)
  obtain ⟨ga2, gc2, wa2, wc2, rfl, H⟩ := hv
  have hmr : (reps 4097 (⟨pa, pc, (putEv e).1⟩ : Tx)).map Tx.bs = reps 4097 (putEv e).1 := reps_map
  rw [hmr] at H
  rw [hmr]
  refine l_nil ⟨(fun h => nomatch h), ?_⟩
  refine r_ptup rfl rfl rfl ?_
  refine r_pslice rfl rfl rfl ?_
  refine r_pslice rfl rfl rfl ?_
  refine r_pslice rfl rfl rfl ?_
  refine r_pslice rfl rfl rfl ?_
  refine r_nil ?_
  refine w_seq ?_
  refine w_region ?_
  refine l_pslice rfl rfl ?_
  refine b_call rfl cb_20 rfl (Read_ok (bs := (fileL s (reps 4097 (putEv e).1))) hN H (RdIn.row 0 rfl) rfl (H.rowInv (i := 0) rfl).2.1 (file_over_len s (hrl 4097) (by rw [reps_len]; omega))) (fun v w hv => ?_)
  obtain ⟨ra2, rc2, ca2, cc2, es2, hes2, hr10, H⟩ := hv
  rw [hread7] at hes2 hr10 H
  subst hr10
  obtain rfl : es2 = [] := List.map_eq_nil_iff.1 hes2
  refine l_ptup rfl rfl ?_
  refine l_pagg rfl rfl ?_
  refine l_pslice rfl rfl ?_
  refine l_pint rfl rfl ?_
  refine l_pint rfl rfl ?_
  refine b_alloc (cs := stp0.cells none 0) rfl ze_56 rfl H (fun b18 w H => ?_)
  refine b_store (cs' := stp0.cells ca2 cc2) rfl sz_56 rfl rfl rfl rfl rfl H 0 rfl rfl (putL_all rfl) (fun w H => ?_)
  refine l_pslice rfl rfl ?_
  refine l_pint rfl rfl ?_
  refine l_pint rfl rfl ?_
  refine l_nil ?_
  refine w_seq ?_
  refine w_region ?_
  refine l_pslice rfl rfl ?_
  refine b_call rfl cb_26 rfl (Salvage_ok (bs := (fileL s (reps 4097 (putEv e).1))) hN H (RdIn.row 4 rfl) rfl (H.rowInv (i := 4) rfl).2.1 (file_over_len s (hrl 4097) (by rw [reps_len]; omega))) (fun v w hv => ?_)
  obtain ⟨sa, sc, da, dc, es3, hes3, hr11, H⟩ := hv
  rw [hrun7] at hes3 hr11 H
  simp only [] at hes3 hr11 H
  rw [hyr] at hr11
  subst hr11
  have hl3 : es3.length = 4096 := by rw [← List.length_map (f := EvM.e), hes3, hyl]
  refine l_ptup rfl rfl ?_
  refine l_pagg rfl rfl ?_
  refine l_pslice rfl rfl ?_
  refine l_pint rfl rfl ?_
  refine b_alloc (cs := stp0.cells none 0) rfl ze_56 rfl H (fun b20 w H => ?_)
  refine b_store (cs' := yy.stp.cells da dc) rfl sz_56 rfl rfl rfl rfl rfl H 0 rfl rfl (putL_all rfl) (fun w H => ?_)
  obtain ⟨pb, po, hpa, _⟩ := nat_at ((H.rowInv (i := 9) rfl).2.2.2.2) (show 129 < (posW s (reps 4097 (putEv e).1)).length by omega)
  refine l_pslice rfl rfl ?_
  refine l_pint rfl rfl ?_
  refine l_nil ?_
  refine w_seq ?_
  refine w_region ?_
  refine l_pslice rfl rfl ?_
  refine l_pslice rfl rfl ?_
  refine l_v rfl (q_lenSlice rfl el_66 rfl) ?_
  first | refine l_v rfl (q_sub rfl rfl rfl (by simp only [inK]; omega)) ?_ | refine l_pint rfl rfl ?_
  refine l_v rfl (q_indexSliceE 129 rfl el_66 rfl hpa rfl (by omega) (by omega)) ?_
  refine l_v rfl (q_load1 (v := I (qOf (headF s) (chsOf (reps 4097 (putEv e).1)) 128 : Int)) rfl c1_3 rfl (by have h := nat_c (i := 129) hpa ((H.rowInv (i := 9) rfl).2.2.2.2) (by omega); rw [hp129] at h; exact h)) ?_
  refine l_pint rfl rfl ?_
  refine l_nil ?_
  refine w_seq ?_
  refine w_region ?_
  refine b_call rfl cb_19 rfl (works_ok hN H) (fun v w hv => ?_)
  obtain ⟨rfl, H⟩ := hv
  refine l_pbool rfl rfl ?_
  refine l_split 130 rfl (fun h130 => ?_) (fun h130 => absurd h130 (by simp))
  try simp only [sH] at h130
  refine l_pint rfl rfl ?_
  refine l_pbool rfl rfl ?_
  refine l_pickT (v := .bool _) rfl rfl rfl ?_
  refine l_pbool rfl rfl ?_
  refine l_split 134 rfl (fun h134 => ?_) (fun h134 => absurd h134 (by simp))
  try simp only [sH] at h134
  refine l_pint rfl rfl ?_
  refine l_pint rfl rfl ?_
  refine l_pbool rfl rfl ?_
  refine l_pickT (v := .bool _) rfl rfl rfl ?_
  refine l_pbool rfl rfl ?_
  refine l_split 139 rfl (fun h139 => ?_) (fun h139 => absurd h139 (by simp))
  try simp only [sH] at h139
  refine l_pslice rfl rfl ?_
  refine l_v rfl (q_lenSlice rfl el_57 rfl) ?_
  refine l_pbool rfl rfl ?_
  refine l_pickT (v := .bool _) rfl rfl rfl ?_
  refine l_pbool rfl rfl ?_
  refine l_split 144 rfl (fun h144 => ?_) (fun h144 => absurd h144 (by simp))
  try simp only [sH] at h144
  refine l_pint rfl rfl ?_
  refine l_pint rfl rfl ?_
  refine l_pbool rfl rfl ?_
  refine l_pickT (v := .bool _) rfl rfl rfl ?_
  refine l_pbool rfl rfl ?_
  refine l_split 149 rfl (fun h149 => ?_) (fun h149 => absurd h149 (by simp))
  try simp only [sH] at h149
  refine l_pslice rfl rfl ?_
  refine l_v rfl (q_lenSlice rfl el_57 rfl) ?_
  refine l_pslice rfl rfl ?_
  refine l_v rfl (q_lenSlice rfl el_66 rfl) ?_
  first | refine l_v rfl (q_sub rfl rfl rfl (by simp only [inK]; omega)) ?_ | refine l_pint rfl rfl ?_
  first | refine l_v rfl (q_mul rfl rfl rfl (by simp only [inK]; omega)) ?_ | refine l_pint rfl rfl ?_
  refine l_pbool rfl rfl ?_
  refine l_pickT (v := .bool _) rfl rfl rfl ?_
  refine l_pbool rfl rfl ?_
  refine l_nil ?_
  refine w_ret ?_
  refine fin1 (v := .bool _) rfl ?_
  exact ⟨congrArg Value.bool (by rw [hl3, hpl]; decide), _, H⟩
end Go.Proofs.YtfpmnhmdphaceaaDoor
