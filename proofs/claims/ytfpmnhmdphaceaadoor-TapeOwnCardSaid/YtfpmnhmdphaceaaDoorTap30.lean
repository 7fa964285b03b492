/- Walks through the tape's functions. -/
import Derived.Test.YtfpmnhmdphaceaaDoorTap29
import Derived.Test.YtfpmnhmdphaceaaDoorTapMAll
import Derived.Test.YtfpmnhmdphaceaaDoorTadAll
namespace Go.Proofs.YtfpmnhmdphaceaaDoor
open Go.EW
attribute [local irreducible] EW.W EW.L EW.fin block8 outB shaL
set_option linter.unusedVariables false
set_option linter.unusedSimpArgs false
attribute [local irreducible] crcN crcB crcL sealL openR sealR
/-- a tape that New and Add made -/
structure TOk2 (t : TS) : Prop where
  ok : TOk t
  all : t.places.length + t.texts.length ≤ t.n
  fst : t.first + t.texts.length = t.n
  pl : PlOk t
theorem TOk2.new (s : Stp) : TOk2 (newT s) :=
  ⟨⟨Nat.zero_le _, Nat.zero_le _, Nat.zero_le _, seal_le _, Nat.zero_le _, fun x hx => absurd hx (by simp [newT]), Nat.zero_le _⟩, Nat.zero_le _, rfl, fun x hx => absurd hx (by simp [newT])⟩
theorem TOk2.flush {t : TS} (h : TOk2 t) (h0 : 0 < t.texts.length) : TOk2 (flushT t) := by
  have h1 := h.ok.flen
  have h2 := h.all
  have h3 := h.ok.file
  have h4 : (frameC t.first t.texts).length ≤ 32768 := seal_le _
  refine ⟨⟨h.ok.n, Nat.le_refl _, ?_, ?_, Nat.zero_le _, fun x hx => absurd hx (by simp [flushT]), Nat.zero_le _⟩, ?_, rfl, ?_⟩
  · show (t.places ++ [t.file.length]).length ≤ t.n
    rw [List.length_append, List.length_singleton]; omega
  · show (t.file ++ frameC t.first t.texts).length ≤ 32768 * ((t.places ++ [t.file.length]).length + 1)
    rw [List.length_append, List.length_append, List.length_singleton]; omega
  · show (t.places ++ [t.file.length]).length + 0 ≤ t.n
    rw [List.length_append, List.length_singleton]; omega
  intro x hx
  rcases List.mem_append.1 (show x ∈ t.places ++ [t.file.length] from hx) with hx | hx
  · exact h.pl x hx
  rw [List.mem_singleton.1 hx]; exact h1
theorem TOk2.put {t : TS} (h : TOk2 t) (b : List UInt8) (hb : b.length ≤ 20000) (hn : t.n < 4096) (hc : t.texts.length < 32) : TOk2 { t with texts := t.texts ++ [b], n := t.n + 1 } := by
  have h1 := h.all
  have h2 := h.fst
  have h3 := h.ok.places
  have h4 := h.ok.first
  refine ⟨⟨hn, ?_, ?_, h.ok.file, ?_, ?_, ?_⟩, ?_, ?_, h.pl⟩ <;> simp only [List.length_append, List.length_singleton]
  · omega
  · omega
  · omega
  · intro x hx
    rcases List.mem_append.1 hx with hx | hx
    · exact h.ok.each x hx
    rw [List.mem_singleton.1 hx]; exact hb
  · omega
  · omega
  omega
theorem TOk2.addT {t : TS} (h : TOk2 t) (b : List UInt8) (hb : b.length ≤ 20000) (hn : t.n < 4096) : TOk2 (addT t b) := by
  unfold YtfpmnhmdphaceaaDoor.addT
  simp only []
  split
  · rename_i hc
    exact (h.flush hc.1).put b hb hn (by show 0 < 32; decide)
  rename_i hc
  refine h.put b hb hn ?_
  rcases Nat.eq_zero_or_pos t.texts.length with h0 | h0
  · omega
  have hf : fitsT t b = true := by
    cases hf : fitsT t b with
    | true => rfl
    | false => exact absurd ⟨h0, hf⟩ hc
  unfold fitsT fitsN at hf
  have := (Bool.and_eq_true _ _ ▸ hf).1
  exact of_decide_eq_true this
theorem TOk2.add {t : TS} (h : TOk2 t) (e : Evt) : TOk2 (addRT t e).2 := by
  unfold addRT
  split
  · exact h
  split
  · exact h
  exact h.addT _ (by have := putEv_len e; omega) (by omega)
def tickE (n : Int) : Evt := { evt0 with k := 8, nd := n }
def dropE : Evt := { evt0 with k := 4, ix := 3 }
def wk0 : TS := newT smallS
def wk1 : TS := (addRT wk0 (tickE 1)).2
def wk2 : TS := (addRT wk1 dropE).2
def wkF : List UInt8 := [97, 109, 110, 49, 0, 0, 0, 14, 1, 1, 1, 1, 1, 1, 1, 4, 1, 6, 0, 1, 1, 0, 200, 97, 168, 137, 97, 109, 110, 49, 0, 0, 0,
  18, 1, 2, 0, 1, 2, 1, 5, 1, 8, 1, 1, 0, 1, 4, 1, 4, 1, 3, 178, 162, 213, 17, 97, 109, 110, 49, 0, 0, 0, 42, 1, 3, 1, 2,
  1, 1, 1, 26, 1, 32, 147, 152, 109, 156, 238, 87, 143, 10, 33, 199, 53, 106, 149, 62, 161, 174, 134, 198, 152, 58, 51,
  224, 100, 85, 73, 52, 102, 49, 242, 168, 233, 60, 57, 129, 211, 162, 0, 0, 0, 54]
section
set_option maxRecDepth 100000
theorem wk_a1 : (addRT wk0 (tickE 1)).1 = 0 := by kernel_rfl
theorem wk_a2 : (addRT wk1 (tickE (-1))).1 = 150 := by kernel_rfl
theorem wk_s2 : (addRT wk1 (tickE (-1))).2 = wk1 := by unfold addRT; rw [if_pos (by decide)]
theorem wk_a3 : (addRT wk1 dropE).1 = 0 := by kernel_rfl
theorem wk_n : wk2.n = 2 := by kernel_rfl
theorem wk_chk : chkS smallS = 0 := by kernel_rfl
theorem wkF_len : wkF.length = 114 := by kernel_rfl
theorem wk_file : fileT wk2 = wkF := by kernel_rfl
theorem wk_read : readR wkF = (smallS, [tickE 1, dropE], 0, 0) := by kernel_rfl
theorem wk_cut : (readR (wkF.take 113)).2.2.1 = 222 := by kernel_rfl
end
theorem wk_t0 : TOk2 wk0 := TOk2.new _
theorem wk_t1 : TOk2 wk1 := wk_t0.add _
theorem wk_t2 : TOk2 wk2 := wk_t1.add _
theorem tick_ok (n : Int) (h : -10 ≤ n ∧ n ≤ 10) : EvOk (tickE n) := by
  have h0 : (-9223372036854775808 : Int) ≤ 0 ∧ (0 : Int) ≤ 9223372036854775807 := by decide
  refine ⟨fun i => ?_, ⟨h0.2, h0.2⟩, ⟨Nat.zero_lt_succ _, Nat.zero_lt_succ _⟩, Nat.zero_le _, Nat.zero_le _⟩
  match i with
  | 0 => exact ⟨by show _ ≤ n; omega, by show n ≤ _; omega⟩
  | 1 => exact h0
  | 2 => exact h0
  | 3 => exact h0
  | 4 => exact h0
  | (_ + 5) => exact ⟨by show _ ≤ (0 : Int); decide, by show (0 : Int) ≤ _; decide⟩
theorem drop_ok : EvOk dropE := by
  refine ⟨fun i => ?_, by decide, by decide, by decide, by decide⟩
  match i with
  | 0 => decide
  | 1 => decide
  | 2 => decide
  | 3 => decide
  | 4 => decide
  | (_ + 5) => exact ⟨by show _ ≤ (0 : Int); decide, by show (0 : Int) ≤ _; decide⟩
theorem two_evs {es : List EvM} {x y : Evt} (h : es.map EvM.e = [x, y]) : ∃ a b, es = [a, b] ∧ a.e = x ∧ b.e = y := by
  match es, h with
  | [a, b], h =>
    simp only [List.map_cons, List.map_nil, List.cons.injEq, and_true] at h
    exact ⟨a, b, rfl, h.1, h.2⟩
theorem rd113 {W : World} {S : List Seg} {a : Option Addr} {c : Nat} (h : RdIn W S a (wkF.map B)) : RdIn W S (subA a 1 0 c) ((wkF.take 113).map B) := by
  have h2 := h.subA (sz := 1) (l := 0) (m := c) (j := 113) (fun _ => .inr rfl)
  rw [Nat.zero_mul, List.drop_zero, ← List.map_take] at h2
  exact h2
theorem wk0_def : newT smallS = wk0 := rfl
theorem wk0_nil : wk0.texts = [] := rfl
theorem wk1_def : (addRT wk0 (tickE 1)).2 = wk1 := rfl
theorem wk2_def : (addRT wk1 dropE).2 = wk2 := rfl
attribute [local irreducible] wkF readR fileT addRT wk0 wk1 wk2
set_option maxRecDepth 8000 in
set_option maxHeartbeats 1000000 in
theorem works_ok {W w : World} {F : List Seg} (hN : NibOk W) (H : St W w F) :
    Ok Tryd.prog 19 [].toArray w (fun r w' => r = .bool true ∧ St W w' F) := by
  refine enter (n := 99) (rs := #[.tmp 0]) Tryd.func19 rfl rfl rfl rfl ?_
  refine w_seq ?_
  refine w_region ?_
  refine l_pbool rfl rfl ?_
  refine l_nil ?_
  refine w_seq ?_
  refine w_region ?_
  refine b_call rfl cb_65 rfl (small_ok H) (fun v w hv => ?_)
  obtain ⟨sb, rfl, H⟩ := hv
  refine b_call rfl cb_28 rfl (TNew_ok hN H smallS (by intro x hx; obtain rfl := List.mem_singleton.1 (show x ∈ [0] from hx); decide) (RdIn.blk0 0 rfl)) (fun v w hv => ?_)
  obtain ⟨h, -⟩ | ⟨-, tb, p0, hp0, rfl, H⟩ := hv
  · exact absurd wk_chk h
  rw [wk0_def] at H
  have hq0 : p0.ts = wk0.texts := by unfold TP.ts; rw [hp0, wk0_nil]; rfl
  refine l_ptup rfl rfl ?_
  refine l_pptr rfl rfl ?_
  refine l_pint rfl rfl ?_
  refine l_pptr rfl rfl ?_
  refine l_pint rfl rfl ?_
  refine l_nil ?_
  refine w_seq ?_
  refine w_seq ?_
  refine w_region ?_
  refine l_pptr rfl rfl ?_
  refine l_v rfl (q_eqlNilF rfl pt_61 rfl rfl) ?_
  refine l_pbool rfl rfl ?_
  refine l_pint rfl rfl ?_
  refine l_pbool rfl rfl ?_
  refine l_pickF (v := .bool _) rfl rfl rfl ?_
  refine l_pbool rfl rfl ?_
  refine l_split 23 rfl (fun h23 => absurd h23 (by decide)) (fun h23 => ?_)
  try simp only [sH] at h23
  refine l_pptr rfl rfl ?_
  refine l_v rfl (q_build (cs := (tickE 1).cells none 0) rfl sp_30 rfl) ?_
  refine b_call rfl cb_29 rfl (TAdd_ok hN H wk_t0.ok hq0 (tickE 1) (tick_ok 1 (by decide)) RdIn.nil) (fun v w hv => ?_)
  obtain ⟨p1, hq1, hr1, H⟩ := hv
  rw [wk_a1] at hr1; subst hr1
  rw [wk1_def] at hq1 H
  refine l_pbool rfl rfl ?_
  refine l_pickF (v := .bool _) rfl rfl rfl ?_
  refine l_pbool rfl rfl ?_
  refine l_split 29 rfl (fun h29 => absurd h29 (by decide)) (fun h29 => ?_)
  try simp only [sH] at h29
  refine l_pptr rfl rfl ?_
  refine l_v rfl (q_build (cs := (tickE (-1)).cells none 0) rfl sp_30 rfl) ?_
  refine b_call rfl cb_29 rfl (TAdd_ok hN H wk_t1.ok hq1 (tickE (-1)) (tick_ok (-1) (by decide)) RdIn.nil) (fun v w hv => ?_)
  obtain ⟨p2, hq2, hr2, H⟩ := hv
  rw [wk_a2] at hr2; subst hr2
  rw [wk_s2] at hq2 H
  refine l_pbool rfl rfl ?_
  refine l_pickF (v := .bool _) rfl rfl rfl ?_
  refine l_pbool rfl rfl ?_
  refine l_split 35 rfl (fun h35 => absurd h35 (by decide)) (fun h35 => ?_)
  try simp only [sH] at h35
  refine l_pptr rfl rfl ?_
  refine l_v rfl (q_build (cs := dropE.cells none 0) rfl sp_30 rfl) ?_
  refine b_call rfl cb_29 rfl (TAdd_ok hN H wk_t1.ok hq2 (dropE) (drop_ok) RdIn.nil) (fun v w hv => ?_)
  obtain ⟨p3, hq3, hr3, H⟩ := hv
  rw [wk_a3] at hr3; subst hr3
  rw [wk2_def] at hq3 H
  refine l_pbool rfl rfl ?_
  refine l_pickF (v := .bool _) rfl rfl rfl ?_
  refine l_pbool rfl rfl ?_
  refine l_split 41 rfl (fun h41 => absurd h41 (by decide)) (fun h41 => ?_)
  try simp only [sH] at h41
  refine l_pptr rfl rfl ?_
  refine b_call rfl cb_31 rfl (TLen_ok H) (fun v w hv => ?_)
  obtain ⟨hr4, H⟩ := hv
  rw [wk_n] at hr4; subst hr4
  refine l_pbool rfl rfl ?_
  refine l_pickF (v := .bool _) rfl rfl rfl ?_
  refine l_nil ?_
  refine w_cond_f rfl ?_
  refine w_skip ?_
  refine w_seq ?_
  refine w_region ?_
  refine l_pptr rfl rfl ?_
  refine b_call rfl cb_23 rfl (TBytes_ok hN H wk_t2.ok hq3 wk_t2.pl) (fun v w hv => ?_)
  have hwl := wkF_len
  obtain ⟨fa, fc, hr5, H⟩ := hv
  rw [wk_file] at hr5 H; subst hr5
  have hfc := (H.rowInv (i := 0) rfl).2.1
  refine l_pslice rfl rfl ?_
  refine l_nil ?_
  refine w_seq ?_
  refine w_region ?_
  refine l_pslice rfl rfl ?_
  refine b_call rfl cb_20 rfl (Read_ok hN H (RdIn.row 0 rfl) rfl hfc (by rw [wkF_len]; decide)) (fun v w hv => ?_)
  obtain ⟨ea, ec, ca, cc, es, hes, hr6, H⟩ := hv
  rw [wk_read] at hes hr6 H; subst hr6
  obtain ⟨x1, x2, rfl, hx1, hx2⟩ := two_evs hes
  obtain ⟨eb, eo, hea, _⟩ := rd_cell (H.rowInv (i := 0) rfl).2.2.2.2 (k := 0) (x := I x1.e.k) rfl
  refine l_ptup rfl rfl ?_
  refine l_pagg rfl rfl ?_
  refine l_pslice rfl rfl ?_
  refine l_pint rfl rfl ?_
  refine l_pint rfl rfl ?_
  refine b_alloc (cs := stp0.cells none 0) rfl ze_56 rfl H (fun b4 w H => ?_)
  refine b_store (cs' := smallS.cells ca cc) rfl sz_56 rfl rfl rfl rfl rfl H 0 rfl rfl (putL_all rfl) (fun w H => ?_)
  refine l_pslice rfl rfl ?_
  refine l_pint rfl rfl ?_
  refine l_pint rfl rfl ?_
  refine l_nil ?_
  refine w_seq ?_
  refine w_seq ?_
  refine w_drawT [28] [15, 22, 26] [(0, 0), (1, 0), (2, 0), (3, 0), (4, 0), (5, 0), (6, 0), (7, 0), (8, 0), (9, 0), (10, 0), (11, 0), (12, 0), (13, 0), (14, 0), (15, 1), (16, 0), (17, 0), (18, 0), (19, 0), (20, 0), (21, 0), (22, 1), (23, 0), (24, 0), (25, 0), (26, 1), (27, 2), (28, 2), (29, 0), (30, 0)] mixed (by kernel_rfl) (fun _ _ _ h => fin_panic h) H (fun H => ?_)
  refine r_pint rfl rfl rfl ?_
  refine r_pbool rfl rfl rfl ?_
  refine r_pbool rfl rfl rfl ?_
  refine r_split 57 rfl (fun h57 => absurd h57 (by decide)) (fun h57 => ?_)
  try simp only [sH] at h57
  refine r_pint rfl rfl rfl ?_
  refine r_pbool rfl rfl rfl ?_
  refine r_pickF (v := .bool _) rfl rfl rfl rfl ?_
  refine r_pbool rfl rfl rfl ?_
  refine r_split 61 rfl (fun h61 => absurd h61 (by decide)) (fun h61 => ?_)
  try simp only [sH] at h61
  refine r_pslice rfl rfl rfl ?_
  refine r_w rfl rfl (fun w => q_lenSlice rfl el_57 rfl) ?_
  refine r_pbool rfl rfl rfl ?_
  refine r_pickF (v := .bool _) rfl rfl rfl rfl ?_
  refine r_pbool rfl rfl rfl ?_
  refine r_split 66 rfl (fun h66 => absurd h66 (by show ¬ (((2 : Nat) : Int) != 2) = true; decide)) (fun h66 => ?_)
  try simp only [sH] at h66
  refine r_pslice rfl rfl rfl ?_
  refine r_w rfl rfl (fun w => q_indexSliceE 0 rfl el_57 rfl hea rfl rfl (by show 0 < 2; decide)) ?_
  refine r_w rfl rfl (fun w => q_fieldAddr rfl fo30_1 rfl) ?_
  refine r_v rfl rfl (fun w hS => q_load1 (v := I x1.e.nd) rfl c1_3 rfl (rd_at (j := 1) hea (hS.rowInv (i := 1) rfl).2.2.2.2 rfl)) ?_
  refine r_pbool rfl rfl rfl ?_
  refine r_pickF (v := .bool _) rfl rfl rfl rfl ?_
  refine r_pbool rfl rfl rfl ?_
  refine r_split 73 rfl (fun h73 => absurd h73 (by rw [hx1]; decide)) (fun h73 => ?_)
  try simp only [sH] at h73
  refine r_pslice rfl rfl rfl ?_
  refine r_w rfl rfl (fun w => q_indexSliceE 1 rfl el_57 rfl hea rfl rfl (by show 1 < 2; decide)) ?_
  refine r_w rfl rfl (fun w => q_fieldAddr rfl fo30_3 rfl) ?_
  refine r_v rfl rfl (fun w hS => q_load1 (v := I x2.e.ix) rfl c1_3 rfl (rd_at (j := 16) hea (hS.rowInv (i := 1) rfl).2.2.2.2 rfl)) ?_
  refine r_pbool rfl rfl rfl ?_
  refine r_pickF (v := .bool _) rfl rfl rfl rfl ?_
  refine r_pbool rfl rfl rfl ?_
  refine r_split 80 rfl (fun h80 => absurd h80 (by rw [hx2]; decide)) (fun h80 => ?_)
  try simp only [sH] at h80
  refine r_v rfl rfl (fun w hS => q_loadN (vs := smallS.cells ca cc) rfl ag_56 rfl rfl (hS.cells 0 rfl)) ?_
  refine r_do rfl ?_
  refine b_call rfl cb_65 rfl (small_ok H) (fun v w hv => ?_)
  obtain ⟨s2, rfl, H⟩ := hv
  refine l_nil ⟨fun _ _ => (by first | exact H | exact H.drop1 | exact H.drop1.drop1 | exact H.drop1.drop1.drop1), ?_⟩
  refine r_do rfl ?_
  refine b_call rfl cb_21 rfl (sameSetup_ok H (s := smallS) (t := smallS) (RdIn.row 4 rfl) (RdIn.blk0 0 rfl) (by decide)) (fun v w hv => ?_)
  obtain ⟨bb, hbb, rfl, H⟩ := hv
  obtain rfl : bb = true := hbb.2 rfl
  refine l_nil ⟨(fun h => nomatch h), ?_⟩
  refine r_pbool rfl rfl rfl ?_
  refine r_pickF (v := .bool _) rfl rfl rfl rfl ?_
  refine r_nil ?_
  refine w_cond_f rfl ?_
  refine w_skip ?_
  refine w_seq ?_
  refine w_region ?_
  refine l_pslice rfl rfl ?_
  refine l_pslice rfl rfl ?_
  refine l_v rfl (q_lenSlice rfl el_28 rfl) ?_
  first | refine l_v rfl (q_sub rfl rfl rfl (by simp only [inK]; omega)) ?_ | refine l_pint rfl rfl ?_
  refine l_v rfl (q_slice (l := 0) (h := 113) (m := fc) rfl el_28 rfl Bnd.none (by have hl := wkF_len; have h := @Bnd.mk .i64 ((wkF.length : Int) - 1) wkF.length fc ⟨by omega, by omega⟩; rw [show ((wkF.length : Int) - 1).toNat = 113 by omega] at h; exact h) Bnd.none (by simp)) ?_
  refine b_call rfl cb_20 rfl (Read_ok (bs := wkF.take 113) hN H (rd113 (RdIn.row 5 rfl)) (by rw [List.length_take, wkF_len]; rfl) (by rw [List.length_take]; omega) (by rw [List.length_take, wkF_len]; decide)) (fun v w hv => ?_)
  obtain ⟨ea2, ec2, ca2, cc2, es2, hes2, hr7, H⟩ := hv
  rw [wk_cut] at hr7; subst hr7
  refine l_ptup rfl rfl ?_
  refine l_pagg rfl rfl ?_
  refine l_pslice rfl rfl ?_
  refine l_pint rfl rfl ?_
  refine l_pint rfl rfl ?_
  refine b_alloc (cs := stp0.cells none 0) rfl ze_56 rfl H (fun b8 w H => ?_)
  refine b_store (cs' := (readR (wkF.take 113)).1.cells ca2 cc2) rfl sz_56 rfl rfl rfl rfl rfl H 0 rfl rfl (putL_all rfl) (fun w H => ?_)
  refine l_pslice rfl rfl ?_
  refine l_pint rfl rfl ?_
  refine l_pint rfl rfl ?_
  refine l_nil ?_
  refine w_seq ?_
  refine w_region ?_
  refine l_pint rfl rfl ?_
  refine l_pbool rfl rfl ?_
  refine l_pbool rfl rfl ?_
  refine l_nil ?_
  refine w_ret ?_
  refine fin1 (v := .bool _) rfl ?_
  exact ⟨rfl, St.pick [] (pre := [_, _, _, _, _, _, _, _, _, _, _, _, _, _, _, _]) rfl H rfl⟩
end Go.Proofs.YtfpmnhmdphaceaaDoor
