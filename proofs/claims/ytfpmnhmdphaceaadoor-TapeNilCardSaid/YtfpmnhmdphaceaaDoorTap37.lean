/- A tape that is nil is asked; the law TapeNil's walk ends in true, where the table of nibbles is laid. -/
import Derived.Test.YtfpmnhmdphaceaaDoorTap35
import Derived.Test.YtfpmnhmdphaceaaDoorTap30
namespace Go.Proofs.YtfpmnhmdphaceaaDoor
open Go.EW
attribute [local irreducible] EW.W EW.L EW.fin block8 outB shaL
set_option linter.unusedVariables false
set_option linter.unusedSimpArgs false
attribute [local irreducible] crcN crcB crcL sealL openR sealR
theorem TLen_nil {W w : World} {F : List Seg} (H : St W w F) :
    Ok Tryd.prog 31 [.pointer none].toArray w (fun r w' => r = .int .i64 0 ∧ St W w' F) := by
  refine enter (n := 9) (rs := #[.tmp 2]) Tryd.func31 rfl rfl rfl rfl ?_
  refine w_seq ?_
  refine w_region ?_
  refine l_pint rfl rfl ?_
  refine l_nil ?_
  refine w_seq ?_
  refine w_seq ?_
  refine w_region ?_
  refine l_pptr rfl rfl ?_
  refine l_v rfl (q_eqlNilT rfl pt_61 rfl rfl) ?_
  refine l_nil ?_
  refine w_cond_t rfl ?_
  refine w_seq ?_
  refine w_region ?_
  refine l_pint rfl rfl ?_
  refine l_nil ?_
  refine w_ret ?_
  refine fin1 (v := .int _ _) rfl ?_
  exact ⟨rfl, H⟩

theorem TAdd_nil {W w : World} {F : List Seg} (H : St W w F) (e : Evt) {a : Option Addr} {c : Nat} :
    Ok Tryd.prog 29 [.pointer none, .agg (e.cells a c).toArray].toArray w (fun r w' => r = I 4 ∧ St W w' F) := by
  refine enter (n := 84) (rs := #[.tmp 4]) Tryd.func29 rfl rfl rfl rfl ?_
  refine w_seq ?_
  refine w_region ?_
  refine b_box (cs := e.cells a c) rfl rfl rfl H (fun b3 w H => ?_)
  refine l_pint rfl rfl ?_
  refine l_nil ?_
  refine w_seq ?_
  refine w_seq ?_
  refine w_region ?_
  refine l_pptr rfl rfl ?_
  refine l_v rfl (q_eqlNilT rfl pt_61 rfl rfl) ?_
  refine l_nil ?_
  refine w_cond_t rfl ?_
  refine w_seq ?_
  refine w_region ?_
  refine l_pint rfl rfl ?_
  refine l_nil ?_
  refine w_ret ?_
  refine fin1 (v := .int _ _) rfl ?_
  exact ⟨rfl, H.drop1⟩

theorem TBytes_nil {W w : World} {F : List Seg} (H : St W w F) :
    Ok Tryd.prog 23 [.pointer none].toArray w (fun r w' => r = .slice none 0 0 ∧ St W w' F) := by
  refine enter (n := 51) (rs := #[.tmp 2]) Tryd.func23 rfl rfl rfl rfl ?_
  refine w_seq ?_
  refine w_region ?_
  refine l_pslice rfl rfl ?_
  refine l_nil ?_
  refine w_seq ?_
  refine w_seq ?_
  refine w_region ?_
  refine l_pptr rfl rfl ?_
  refine l_v rfl (q_eqlNilT rfl pt_61 rfl rfl) ?_
  refine l_nil ?_
  refine w_cond_t rfl ?_
  refine w_seq ?_
  refine w_region ?_
  refine l_pslice rfl rfl ?_
  refine l_nil ?_
  refine w_ret ?_
  refine fin1 (v := .slice _ _ _) rfl ?_
  exact ⟨rfl, H⟩


def tz : TS := ⟨[], [], 0, [], 0⟩
def pz : TP := ⟨none, 0, none, 0, none, 0, []⟩
theorem tz_ok : TOk2 tz := ⟨⟨Nat.zero_le _, Nat.zero_le _, Nat.zero_le _, Nat.zero_le _, Nat.zero_le _, fun x hx => absurd hx (by simp [tz]), Nat.zero_le _⟩, Nat.le_refl _, rfl, fun x hx => absurd hx (by simp [tz])⟩
theorem tz_at {W w : World} {F : List Seg} {b : Nat} (H : St W w (blk b [.slice none 0 0, .slice none 0 0, .slice none 0 0, .int .i64 0, .int .i64 0, .slice none 0 0, .int .i64 0, .int .i64 0] 86 :: F)) : St W w (tapeL b pz tz F) :=
  St.pick [4, 3, 2, 1, 0] (pre := [_, _, _, _, _]) rfl (St.newRow (T := 3) (sz := 1) (St.newRow (T := 5) (sz := 1) (St.nilseg.2 (St.newRow (T := 28) (sz := 1) H)))) rfl
theorem tz_pz : pz.ts = tz.texts := rfl
theorem nil_read : readR [] = (stp0, [], 222, 0) := by kernel_rfl
theorem nil_run : runR [] = (222, 0, ss0) := by kernel_rfl
theorem nil_index : indexR [] = (0, [], 222) := by kernel_rfl
theorem nil_evs {es : List EvM} (h : es.map EvM.e = []) : es = [] := List.map_eq_nil_iff.1 h
theorem tick8_ok : EvOk (tickE 0) := tick_ok 0 (by decide)
attribute [local irreducible] readR runR indexR fileT addRT tz

set_option maxRecDepth 8000 in
set_option maxHeartbeats 1000000 in
theorem TapeNil_ok {W w : World} {F : List Seg} (hN : NibOk W) (H : St W w F) :
    Ok Tryd.prog 7 [].toArray w (fun r w' => r = .bool true ∧ ∃ S, St W w' S) := by
  refine enter (n := 82) (rs := #[.tmp 0]) Tryd.func7 rfl rfl rfl rfl ?_
  refine w_seq ?_
  refine w_region ?_
  refine l_pbool rfl rfl ?_
  refine l_nil ?_
  refine w_seq ?_
  refine w_region ?_
  refine l_v rfl (q_build (cs := [.slice none 0 0, .slice none 0 0, .slice none 0 0, .int .i64 0, .int .i64 0, .slice none 0 0, .int .i64 0, .int .i64 0]) rfl sp_86 rfl) ?_
  refine b_box (cs := [.slice none 0 0, .slice none 0 0, .slice none 0 0, .int .i64 0, .int .i64 0, .slice none 0 0, .int .i64 0, .int .i64 0]) rfl rfl rfl H (fun b13 w H => ?_)
  have H := tz_at H
  refine l_pptr rfl rfl ?_
  refine l_nil ?_
  refine w_seq ?_
  refine w_region ?_
  refine l_pptr rfl rfl ?_
  refine b_call rfl cb_31 rfl (TLen_ok H) (fun v w hv => ?_)
  obtain ⟨rfl, H⟩ := hv
  refine l_nil ?_
  refine w_seq ?_
  refine w_region ?_
  refine l_pptr rfl rfl ?_
  refine b_call rfl cb_23 rfl (TBytes_ok hN H tz_ok.ok tz_pz tz_ok.pl) (fun v w hv => ?_)
  obtain ⟨b1, c1, rfl, H⟩ := hv
  have H := H.drop1
  refine l_nil ?_
  refine w_seq ?_
  refine w_region ?_
  refine l_pptr rfl rfl ?_
  refine l_v rfl (q_build (cs := (tickE 0).cells none 0) rfl sp_30 rfl) ?_
  refine b_call rfl cb_29 rfl (TAdd_ok hN H tz_ok.ok tz_pz (tickE 0) tick8_ok RdIn.nil) (fun v w hv => ?_)
  obtain ⟨q, hq, rfl, H⟩ := hv
  refine l_nil ?_
  refine w_seq ?_
  refine w_region ?_
  refine l_pptr rfl rfl ?_
  refine b_call rfl cb_23 rfl (TBytes_ok hN H (tz_ok.add _).ok hq (tz_ok.add _).pl) (fun v w hv => ?_)
  obtain ⟨b2, c2, rfl, H⟩ := hv
  refine l_nil ?_
  refine w_seq ?_
  refine w_region ?_
  refine l_pptr rfl rfl ?_
  refine l_nil ?_
  refine w_seq ?_
  refine w_region ?_
  refine b_call rfl cb_20 rfl (Read_ok (bs := []) hN H RdIn.nil rfl (Nat.zero_le _) (by decide)) (fun v w hv => ?_)
  obtain ⟨ea, ec, ca, cc, es, hes, hr, H⟩ := hv
  rw [nil_read] at hes hr H
  obtain rfl := nil_evs hes
  subst hr
  refine l_ptup rfl rfl ?_
  refine l_pagg rfl rfl ?_
  refine l_pslice rfl rfl ?_
  refine l_pint rfl rfl ?_
  refine l_pint rfl rfl ?_
  refine b_alloc (cs := stp0.cells none 0) rfl ze_56 rfl H (fun b3 w H => ?_)
  refine b_store (cs' := stp0.cells ca cc) rfl sz_56 rfl rfl rfl rfl rfl H 0 rfl rfl (putL_all rfl) (fun w H => ?_)
  refine l_pslice rfl rfl ?_
  refine l_pint rfl rfl ?_
  refine l_pint rfl rfl ?_
  refine l_nil ?_
  refine w_seq ?_
  refine w_region ?_
  refine b_call rfl cb_26 rfl (Salvage_ok (bs := []) hN H RdIn.nil rfl (Nat.zero_le _) (by decide)) (fun v w hv => ?_)
  obtain ⟨ea2, ec2, ca2, cc2, es2, hes2, hr2, H⟩ := hv
  rw [nil_run] at hes2 hr2 H
  obtain rfl := nil_evs hes2
  subst hr2
  refine l_ptup rfl rfl ?_
  refine l_pagg rfl rfl ?_
  refine l_pslice rfl rfl ?_
  refine l_pint rfl rfl ?_
  refine b_alloc (cs := stp0.cells none 0) rfl ze_56 rfl H (fun b7 w H => ?_)
  refine b_store (cs' := ss0.stp.cells ca2 cc2) rfl sz_56 rfl rfl rfl rfl rfl H 0 rfl rfl (putL_all rfl) (fun w H => ?_)
  refine l_pslice rfl rfl ?_
  refine l_pint rfl rfl ?_
  refine l_nil ?_
  refine w_seq ?_
  refine w_region ?_
  refine b_call rfl cb_32 rfl (Index_ok (bs := []) hN H RdIn.nil rfl (Nat.zero_le _) (by decide)) (fun v w hv => ?_)
  obtain ⟨ia, ic, hr3, H⟩ := hv
  rw [nil_index] at hr3 H
  subst hr3
  refine l_ptup rfl rfl ?_
  refine l_pslice rfl rfl ?_
  refine l_pint rfl rfl ?_
  refine l_pslice rfl rfl ?_
  refine l_pint rfl rfl ?_
  refine l_nil ?_
  refine w_seq ?_
  refine w_region ?_
  refine b_call rfl cb_19 rfl (works_ok hN H) (fun v w hv => ?_)
  obtain ⟨rfl, H⟩ := hv
  refine l_pbool rfl rfl ?_
  refine l_split 39 rfl (fun h39 => ?_) (fun h39 => absurd h39 (by first | (simp; done) | (simp [show ss0.right = 0 from rfl]; done)))
  try simp only [sH] at h39
  refine l_pptr rfl rfl ?_
  refine l_v rfl (q_build (cs := (tickE 0).cells none 0) rfl sp_30 rfl) ?_
  refine b_call rfl cb_29 rfl (TAdd_nil H (tickE 0)) (fun v w hv => ?_)
  obtain ⟨rfl, H⟩ := hv
  refine l_pbool rfl rfl ?_
  refine l_pickT (v := .bool _) rfl rfl rfl ?_
  refine l_pbool rfl rfl ?_
  refine l_split 45 rfl (fun h45 => ?_) (fun h45 => absurd h45 (by first | (simp; done) | (simp [show ss0.right = 0 from rfl]; done)))
  try simp only [sH] at h45
  refine l_pptr rfl rfl ?_
  refine b_call rfl cb_31 rfl (TLen_nil H) (fun v w hv => ?_)
  obtain ⟨rfl, H⟩ := hv
  refine l_pbool rfl rfl ?_
  refine l_pickT (v := .bool _) rfl rfl rfl ?_
  refine l_pbool rfl rfl ?_
  refine l_split 50 rfl (fun h50 => ?_) (fun h50 => absurd h50 (by first | (simp; done) | (simp [show ss0.right = 0 from rfl]; done)))
  try simp only [sH] at h50
  refine l_pptr rfl rfl ?_
  refine b_call rfl cb_23 rfl (TBytes_nil H) (fun v w hv => ?_)
  obtain ⟨rfl, H⟩ := hv
  refine l_v rfl (q_lenSlice rfl el_28 rfl) ?_
  refine l_pbool rfl rfl ?_
  refine l_pickT (v := .bool _) rfl rfl rfl ?_
  refine l_pbool rfl rfl ?_
  refine l_split 56 rfl (fun h56 => ?_) (fun h56 => absurd h56 (by first | (simp; done) | (simp [show ss0.right = 0 from rfl]; done)))
  try simp only [sH] at h56
  refine l_pint rfl rfl ?_
  refine l_pbool rfl rfl ?_
  refine l_pickT (v := .bool _) rfl rfl rfl ?_
  refine l_pbool rfl rfl ?_
  refine l_split 60 rfl (fun h60 => ?_) (fun h60 => absurd h60 (by first | (simp; done) | (simp [show ss0.right = 0 from rfl]; done)))
  try simp only [sH] at h60
  refine l_pint rfl rfl ?_
  refine l_pbool rfl rfl ?_
  refine l_pickT (v := .bool _) rfl rfl rfl ?_
  refine l_pbool rfl rfl ?_
  refine l_split 64 rfl (fun h64 => ?_) (fun h64 => absurd h64 (by first | (simp; done) | (simp [show ss0.right = 0 from rfl]; done)))
  try simp only [sH] at h64
  refine l_pslice rfl rfl ?_
  refine l_v rfl (q_lenSlice rfl el_57 rfl) ?_
  refine l_pbool rfl rfl ?_
  refine l_pickT (v := .bool _) rfl rfl rfl ?_
  refine l_pbool rfl rfl ?_
  refine l_split 69 rfl (fun h69 => ?_) (fun h69 => absurd h69 (by first | (simp; done) | (simp [show ss0.right = 0 from rfl]; done)))
  try simp only [sH] at h69
  refine l_pint rfl rfl ?_
  refine l_pbool rfl rfl ?_
  refine l_pickT (v := .bool _) rfl rfl rfl ?_
  refine l_pbool rfl rfl ?_
  refine l_split 73 rfl (fun h73 => ?_) (fun h73 => absurd h73 (by first | (simp; done) | (simp [show ss0.right = 0 from rfl]; done)))
  try simp only [sH] at h73
  refine l_pslice rfl rfl ?_
  refine l_v rfl (q_lenSlice rfl el_66 rfl) ?_
  refine l_pbool rfl rfl ?_
  refine l_pickT (v := .bool _) rfl rfl rfl ?_
  refine l_pbool rfl rfl ?_
  refine l_split 78 rfl (fun h78 => ?_) (fun h78 => absurd h78 (by first | (simp; done) | (simp [show ss0.right = 0 from rfl]; done)))
  try simp only [sH] at h78
  refine l_pint rfl rfl ?_
  refine l_pbool rfl rfl ?_
  refine l_pickT (v := .bool _) rfl rfl rfl ?_
  refine l_pbool rfl rfl ?_
  refine l_nil ?_
  refine w_ret ?_
  refine fin1 (v := .bool _) rfl ?_
  exact ⟨rfl, _, H⟩

end Go.Proofs.YtfpmnhmdphaceaaDoor
