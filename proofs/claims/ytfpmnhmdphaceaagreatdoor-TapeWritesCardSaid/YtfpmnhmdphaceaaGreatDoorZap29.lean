/- A part of this claim: laws of the tape's functions and of plain lists; no conditions beyond those that the theorems name. -/
import Derived.Test.YtfpmnhmdphaceaaGreatDoorZap28
namespace Go.Proofs.YtfpmnhmdphaceaaGreatDoor
open Go.EW
attribute [local irreducible] EW.W EW.L EW.fin block8 outB shaL
set_option linter.unusedVariables false
set_option linter.unusedSimpArgs false
attribute [local irreducible] crcN crcB crcL sealL openR sealR
theorem mk_struct {T : TypeId} (h : (match Tryz.prog.underlying T with | some (.struct _) => true | _ => false) = true) (xs : List Value) : mkV Tryz.prog T xs = .agg xs.toArray := by
  unfold mkV
  split at h
  · rename_i fs hu
    rw [hu]
  cases h
theorem flatCfg : flatK Tryz.prog 8 23 = some [.int .i64, .int .i64, .int .i64, .bool] := by kernel_rfl
theorem mkCfg (xs : List Value) : mkV Tryz.prog 23 xs = .agg xs.toArray := mk_struct (by kernel_rfl) xs
theorem gdCfg : Tryz.prog.eqGuardType Tryz.prog.depth 23 = false := by kernel_rfl
def cfgV (s : Stp) : List Value := [I s.f, I s.room, I s.pat, .bool s.ung]
theorem q_neqCfg {e : Operand → Value} {oo : Oper} {x y : Operand} {T' : TypeId} {s t : Stp} {w : World} (ho : oo.op = .binOp .neq 23 x y T') (hx : e x = .agg (cfgV s).toArray) (hy : e y = .agg (cfgV t).toArray) :
    (execOp e oo).run Tryz.prog w = .ok (.value (.bool (!eqL (cfgV s) (cfgV t)))) w := q_neqAgg ho flatCfg (mkCfg _) (mkCfg _) gdCfg hx hy ⟨⟨_, rfl⟩, ⟨_, rfl⟩, ⟨_, rfl⟩, ⟨_, rfl⟩, trivial⟩ ⟨⟨_, rfl⟩, ⟨_, rfl⟩, ⟨_, rfl⟩, ⟨_, rfl⟩, trivial⟩
theorem cfg_eq {s t : Stp} : eqL (cfgV s) (cfgV t) = true ↔ s.f = t.f ∧ s.room = t.room ∧ s.pat = t.pat ∧ s.ung = t.ung := by simp [cfgV, eqL, eqC]
theorem flatCl : flatK Tryz.prog 8 36 = some [.int .i64] := by kernel_rfl
theorem mkCl (xs : List Value) : mkV Tryz.prog 36 xs = .agg xs.toArray := mk_struct (by kernel_rfl) xs
theorem gdCl : Tryz.prog.eqGuardType Tryz.prog.depth 36 = false := by kernel_rfl
theorem q_neqCl {e : Operand → Value} {oo : Oper} {x y : Operand} {T' : TypeId} {s t : Int} {w : World} (ho : oo.op = .binOp .neq 36 x y T') (hx : e x = .agg [I s].toArray) (hy : e y = .agg [I t].toArray) :
    (execOp e oo).run Tryz.prog w = .ok (.value (.bool (!decide (s = t)))) w := by
  have h := q_neqAgg (w := w) ho flatCl (mkCl _) (mkCl _) gdCl hx hy ⟨⟨_, rfl⟩, trivial⟩ ⟨⟨_, rfl⟩, trivial⟩
  rwa [show eqL [I s] [I t] = decide (s = t) by rw [Bool.eq_iff_iff]; simp [eqL, eqC]] at h
theorem cls_at {w : World} {a : Option Addr} {l : List Int} {i b o : Nat} (ha : a = some ⟨b, o, none⟩) (h : Rd w a (intsV l)) (hi : i < l.length) : Cells w b (o + i * 1) [I l[i]] :=
  ⟨rd_at ha h (by unfold intsV; rw [List.getElem?_map, List.getElem?_eq_getElem hi]; rfl), trivial⟩
theorem stp_eq {s t : Stp} (h : s.f = t.f ∧ s.room = t.room ∧ s.pat = t.pat ∧ s.ung = t.ung) (hc : s.cls = t.cls) : s = t := by
  cases s; cases t; simp_all
theorem sameSetup_ok {W w : World} {F : List Seg} (H : St W w F) {s t : Stp} {a a' : Option Addr} {c c' : Nat} (hr : RdIn W F a (intsV s.cls)) (hr' : RdIn W F a' (intsV t.cls)) (hcl : s.cls.length ≤ 1000000000) :
    Ok Tryz.prog 19 [.agg (s.cells a c).toArray, .agg (t.cells a' c').toArray].toArray w (fun r w' => ∃ b, (b = true ↔ s = t) ∧ r = .bool b ∧ St W w' F) := by
  refine enter (n := 38) (rs := #[.tmp 4]) Tryz.func19 rfl rfl rfl rfl ?_
  refine w_seq ?_
  refine w_region ?_
  refine b_box (cs := s.cells a c) rfl rfl rfl H (fun b2 w H => ?_)
  refine b_box (cs := t.cells a' c') rfl rfl rfl H (fun b3 w H => ?_)
  refine l_pbool rfl rfl ?_
  refine l_nil ?_
  refine w_seq ?_
  refine w_seq ?_
  refine w_region ?_
  refine l_v rfl (q_fieldAddr rfl fo26_0 rfl) ?_
  refine l_v rfl (q_loadN (vs := cfgV s) rfl ag_23 rfl rfl ((H.cells 1 rfl).sub 0 4)) ?_
  refine l_v rfl (q_fieldAddr rfl fo26_0 rfl) ?_
  refine l_v rfl (q_loadN (vs := cfgV t) rfl ag_23 rfl rfl ((H.cells 0 rfl).sub 0 4)) ?_
  refine l_v rfl (q_neqCfg rfl rfl rfl) ?_
  refine l_pbool rfl rfl ?_
  refine l_split 11 rfl (fun h11 => ?_) (fun h11 => ?_)
  · try simp only [sH] at h11
    refine l_no rfl ?_
    refine l_no rfl ?_
    refine l_no rfl ?_
    refine l_no rfl ?_
    refine l_no rfl ?_
    refine l_no rfl ?_
    refine l_no rfl ?_
    refine l_pickT (v := .bool _) rfl rfl rfl ?_
    refine l_nil ?_
    refine w_cond_t rfl ?_
    refine w_seq ?_
    refine w_region ?_
    refine l_pbool rfl rfl ?_
    refine l_nil ?_
    refine w_ret ?_
    refine fin1 (v := .bool _) rfl ?_
    exact ⟨false, ⟨(fun h => by cases h), (fun h => by subst h; rw [cfg_eq.2 ⟨rfl, rfl, rfl, rfl⟩] at h11; cases h11)⟩, rfl, H.drop1.drop1⟩
  try simp only [sH] at h11
  refine l_v rfl (q_fieldAddr rfl fo26_1 rfl) ?_
  refine l_v rfl (q_load1 rfl c1_24 rfl (by first | exact H.cell 0 rfl rfl | exact H.cell 1 rfl rfl)) ?_
  refine l_v rfl (q_lenSlice rfl el_24 rfl) ?_
  refine l_v rfl (q_fieldAddr rfl fo26_1 rfl) ?_
  refine l_v rfl (q_load1 rfl c1_24 rfl (by first | exact H.cell 0 rfl rfl | exact H.cell 1 rfl rfl)) ?_
  refine l_v rfl (q_lenSlice rfl el_24 rfl) ?_
  refine l_pbool rfl rfl ?_
  refine l_pickF (v := .bool _) rfl rfl rfl ?_
  refine l_nil ?_
  refine w_cond rfl (fun c1 => ?_) (fun c1 => ?_)
  · try simp only [sH] at c1
    refine w_seq ?_
    refine w_region ?_
    refine l_pbool rfl rfl ?_
    refine l_nil ?_
    refine w_ret ?_
    refine fin1 (v := .bool _) rfl ?_
    exact ⟨false, ⟨(fun h => by cases h), (fun h => by subst h; omega)⟩, rfl, H.drop1.drop1⟩
  try simp only [sH] at c1
  refine w_skip ?_
  refine w_seq ?_
  refine w_seq ?_
  refine w_region ?_
  refine l_pint rfl rfl ?_
  refine l_nil ?_
  refine w_block ?_
  refine w_loopG (G := Nat) [4, 5, 20, 21, 22, 23, 24, 25, 26, 27, 28, 29, 30, 31, 32, 33, 34, 35, 36, 37] (fun i => [(5, .int .i64 ((i : Nat) : Int))]) (fun m i w => m + i = s.cls.length ∧ s.cls.take i = t.cls.take i ∧ St W w (blk b3 (t.cells a' c') 26 :: blk b2 (s.cells a c) 26 :: F)) (fun _ => rfl) ?_ ?_
  · exact ⟨s.cls.length, 0, ⟨rfl, trivial⟩, rfl, rfl, H⟩
  rintro m i ρ1 w ⟨hmi, htk, H⟩
  refine w_seq ?_
  refine w_seq ?_
  refine w_region ?_
  refine l_pint rfl rfl ?_
  refine l_v rfl (q_fieldAddr rfl fo26_1 rfl) ?_
  refine l_v rfl (q_load1 rfl c1_24 rfl (by first | exact H.cell 0 rfl rfl | exact H.cell 1 rfl rfl)) ?_
  refine l_v rfl (q_lenSlice rfl el_24 rfl) ?_
  refine l_pbool rfl rfl ?_
  refine l_nil ?_
  refine w_cond rfl (fun c2 => ?_) (fun c2 => ?_)
  · try simp only [sH] at c2
    have hi : i < s.cls.length := by omega
    have hi' : i < t.cls.length := by omega
    obtain ⟨x1, x2, ha1, _⟩ := int_at (hr.use H 2 rfl) hi
    obtain ⟨y1, y2, ha2, _⟩ := int_at (hr'.use H 2 rfl) hi'
    refine w_skip ?_
    refine w_seq ?_
    refine w_block ?_
    refine w_seq ?_
    refine w_drawT [] [1, 4, 6, 9] [(0, 0), (1, 1), (2, 0), (3, 0), (4, 1), (5, 0), (6, 1), (7, 0), (8, 0), (9, 1), (10, 0)] mixed (by kernel_rfl) (fun _ _ _ h => fin_panic h) H (fun H => ?_)
    refine r_w rfl rfl (fun w => q_fieldAddr rfl fo26_1 rfl) ?_
    refine r_v rfl rfl (fun w hS => q_load1 rfl c1_24 rfl (by first | exact hS.cell 0 rfl rfl | exact hS.cell 1 rfl rfl)) ?_
    refine r_pint rfl rfl rfl ?_
    refine r_w rfl rfl (fun w => q_indexSliceE i rfl el_24 rfl ha1 rfl rfl hi) ?_
    refine r_v rfl rfl (fun w hS => q_loadN (vs := [I s.cls[i]]) rfl ag_36 rfl rfl (cls_at ha1 (hr.use hS 2 rfl) hi)) ?_
    refine r_w rfl rfl (fun w => q_fieldAddr rfl fo26_1 rfl) ?_
    refine r_v rfl rfl (fun w hS => q_load1 rfl c1_24 rfl (by first | exact hS.cell 0 rfl rfl | exact hS.cell 1 rfl rfl)) ?_
    refine r_pint rfl rfl rfl ?_
    refine r_w rfl rfl (fun w => q_indexSliceE i rfl el_24 rfl ha2 rfl rfl hi') ?_
    refine r_v rfl rfl (fun w hS => q_loadN (vs := [I t.cls[i]]) rfl ag_36 rfl rfl (cls_at ha2 (hr'.use hS 2 rfl) hi')) ?_
    refine r_w rfl rfl (fun w => q_neqCl rfl rfl rfl) ?_
    refine r_nil ?_
    refine w_cond rfl (fun c3 => ?_) (fun c3 => ?_)
    · try simp only [sH] at c3
      refine w_seq ?_
      refine w_region ?_
      refine l_pbool rfl rfl ?_
      refine l_nil ?_
      refine w_ret ?_
      refine fin1 (v := .bool _) rfl ?_
      exact ⟨false, ⟨(fun h => by cases h), (fun h => by subst h; exact absurd rfl c3)⟩, rfl, H.drop1.drop1⟩
    try simp only [sH] at c3
    refine w_skip ?_
    refine w_region ?_
    refine l_pint rfl rfl ?_
    first | refine l_v rfl (q_add rfl rfl rfl (by simp only [inK]; omega)) ?_ | refine l_pint rfl rfl ?_
    refine l_pint rfl rfl ?_
    refine l_nil ?_
    refine ⟨by repeat' first | exact aM | exact aR | refine aI rfl ?_ | refine aU rfl ?_ | refine aL rfl ?_, ?_⟩
    refine ⟨m - 1, i + 1, by omega, ⟨by exact congrArg (Value.int IntKind.i64) (Int.natCast_succ i).symm, trivial⟩, by omega, ?_, H⟩
    rw [List.take_succ_eq_append_getElem hi, List.take_succ_eq_append_getElem hi', htk, c3]
  try simp only [sH] at c2
  refine w_exit ?_
  refine w_seq ?_
  refine w_region ?_
  refine l_pbool rfl rfl ?_
  refine l_nil ?_
  refine w_ret ?_
  refine fin1 (v := .bool _) rfl ?_
  obtain rfl : i = s.cls.length := by omega
  rw [List.take_length, List.take_of_length_le (by omega)] at htk
  exact ⟨true, ⟨fun _ => stp_eq (cfg_eq.1 (by simpa using h11)) htk, fun _ => rfl⟩, rfl, H.drop1.drop1⟩
end Go.Proofs.YtfpmnhmdphaceaaGreatDoor
