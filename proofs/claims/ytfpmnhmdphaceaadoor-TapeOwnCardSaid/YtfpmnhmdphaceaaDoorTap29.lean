/- Walks through the tape's functions. -/
import Derived.Test.YtfpmnhmdphaceaaDoorTap28
namespace Go.Proofs.YtfpmnhmdphaceaaDoor
open Go.EW
attribute [local irreducible] EW.W EW.L EW.fin block8 outB shaL
set_option linter.unusedVariables false
set_option linter.unusedSimpArgs false
attribute [local irreducible] crcN crcB crcL sealL openR sealR
theorem mk_struct {T : TypeId} (h : (match Tryd.prog.underlying T with | some (.struct _) => true | _ => false) = true) (xs : List Value) : mkV Tryd.prog T xs = .agg xs.toArray := by
  unfold mkV
  split at h
  · rename_i fs hu
    rw [hu]
  cases h
theorem flatCfg : flatK Tryd.prog 8 53 = some [.int .i64, .int .i64, .int .i64, .bool] := by kernel_rfl
theorem mkCfg (xs : List Value) : mkV Tryd.prog 53 xs = .agg xs.toArray := mk_struct (by kernel_rfl) xs
theorem gdCfg : Tryd.prog.eqGuardType Tryd.prog.depth 53 = false := by kernel_rfl
def cfgV (s : Stp) : List Value := [I s.f, I s.room, I s.pat, .bool s.ung]
theorem q_neqCfg {e : Operand → Value} {oo : Oper} {x y : Operand} {T' : TypeId} {s t : Stp} {w : World} (ho : oo.op = .binOp .neq 53 x y T') (hx : e x = .agg (cfgV s).toArray) (hy : e y = .agg (cfgV t).toArray) :
    (execOp e oo).run Tryd.prog w = .ok (.value (.bool (!eqL (cfgV s) (cfgV t)))) w := q_neqAgg ho flatCfg (mkCfg _) (mkCfg _) gdCfg hx hy ⟨⟨_, rfl⟩, ⟨_, rfl⟩, ⟨_, rfl⟩, ⟨_, rfl⟩, trivial⟩ ⟨⟨_, rfl⟩, ⟨_, rfl⟩, ⟨_, rfl⟩, ⟨_, rfl⟩, trivial⟩
theorem cfg_eq {s t : Stp} : eqL (cfgV s) (cfgV t) = true ↔ s.f = t.f ∧ s.room = t.room ∧ s.pat = t.pat ∧ s.ung = t.ung := by simp [cfgV, eqL, eqC]
theorem flatCl : flatK Tryd.prog 8 150 = some [.int .i64] := by kernel_rfl
theorem mkCl (xs : List Value) : mkV Tryd.prog 150 xs = .agg xs.toArray := mk_struct (by kernel_rfl) xs
theorem gdCl : Tryd.prog.eqGuardType Tryd.prog.depth 150 = false := by kernel_rfl
theorem q_neqCl {e : Operand → Value} {oo : Oper} {x y : Operand} {T' : TypeId} {s t : Int} {w : World} (ho : oo.op = .binOp .neq 150 x y T') (hx : e x = .agg [I s].toArray) (hy : e y = .agg [I t].toArray) :
    (execOp e oo).run Tryd.prog w = .ok (.value (.bool (!decide (s = t)))) w := by
  have h := q_neqAgg (w := w) ho flatCl (mkCl _) (mkCl _) gdCl hx hy ⟨⟨_, rfl⟩, trivial⟩ ⟨⟨_, rfl⟩, trivial⟩
  rwa [show eqL [I s] [I t] = decide (s = t) by rw [Bool.eq_iff_iff]; simp [eqL, eqC]] at h
theorem cls_at {w : World} {a : Option Addr} {l : List Int} {i b o : Nat} (ha : a = some ⟨b, o, none⟩) (h : Rd w a (intsV l)) (hi : i < l.length) : Cells w b (o + i * 1) [I l[i]] :=
  ⟨rd_at ha h (by unfold intsV; rw [List.getElem?_map, List.getElem?_eq_getElem hi]; rfl), trivial⟩
theorem flatOp : flatK Tryd.prog 8 27 = some [.int .i64, .int .i64, .str] := by kernel_rfl
theorem mkOp (xs : List Value) : mkV Tryd.prog 27 xs = .agg xs.toArray := mk_struct (by kernel_rfl) xs
theorem gdOp : Tryd.prog.eqGuardType Tryd.prog.depth 27 = false := by kernel_rfl
def opV (e : Evt) : List Value := [I e.ok, I e.os, .string e.ov]
theorem q_eqlOp {e : Operand → Value} {oo : Oper} {x y : Operand} {T' : TypeId} {s t : Evt} {w : World} (ho : oo.op = .binOp .eql 27 x y T') (hx : e x = .agg (opV s).toArray) (hy : e y = .agg (opV t).toArray) :
    (execOp e oo).run Tryd.prog w = .ok (.value (.bool (eqL (opV s) (opV t)))) w := q_eqlAgg ho flatOp (mkOp _) (mkOp _) gdOp hx hy ⟨⟨_, rfl⟩, ⟨_, rfl⟩, ⟨_, rfl⟩, trivial⟩ ⟨⟨_, rfl⟩, ⟨_, rfl⟩, ⟨_, rfl⟩, trivial⟩
theorem op_eq {s t : Evt} : eqL (opV s) (opV t) = true ↔ s.ok = t.ok ∧ s.os = t.os ∧ s.ov = t.ov := by
  simp only [opV, eqL, eqC, Bool.and_true, Bool.and_eq_true, beq_iff_eq]
  rw [ba_toList, ba_toList]
  constructor
  · rintro ⟨h1, h2, h3⟩
    refine ⟨h1, h2, ?_⟩
    cases hs : s.ov; cases ht : t.ov
    rw [hs, ht] at h3
    simpa using h3
  rintro ⟨h1, h2, h3⟩
  exact ⟨h1, h2, by rw [h3]⟩
theorem flatDr : flatK Tryd.prog 8 25 = some [.int .u64, .int .u64] := by kernel_rfl
theorem mkDr (xs : List Value) : mkV Tryd.prog 25 xs = .agg xs.toArray := mk_struct (by kernel_rfl) xs
theorem gdDr : Tryd.prog.eqGuardType Tryd.prog.depth 25 = false := by kernel_rfl
def drV (e : Evt) : List Value := [N64 e.hi, N64 e.lo]
theorem q_eqlDr {e : Operand → Value} {oo : Oper} {x y : Operand} {T' : TypeId} {s t : Evt} {w : World} (ho : oo.op = .binOp .eql 25 x y T') (hx : e x = .agg (drV s).toArray) (hy : e y = .agg (drV t).toArray) :
    (execOp e oo).run Tryd.prog w = .ok (.value (.bool (eqL (drV s) (drV t)))) w := q_eqlAgg ho flatDr (mkDr _) (mkDr _) gdDr hx hy ⟨⟨_, rfl⟩, ⟨_, rfl⟩, trivial⟩ ⟨⟨_, rfl⟩, ⟨_, rfl⟩, trivial⟩
theorem dr_eq {s t : Evt} : eqL (drV s) (drV t) = true ↔ s.hi = t.hi ∧ s.lo = t.lo := by
  simp only [drV, eqL, eqC, N64, Bool.and_true, Bool.and_eq_true, beq_iff_eq]; omega
theorem stp_eq {s t : Stp} (h : s.f = t.f ∧ s.room = t.room ∧ s.pat = t.pat ∧ s.ung = t.ung) (hc : s.cls = t.cls) : s = t := by
  cases s; cases t; simp_all
theorem sameSetup_ok {W w : World} {F : List Seg} (H : St W w F) {s t : Stp} {a a' : Option Addr} {c c' : Nat} (hr : RdIn W F a (intsV s.cls)) (hr' : RdIn W F a' (intsV t.cls)) (hcl : s.cls.length ≤ 1000000000) :
    Ok Tryd.prog 21 [.agg (s.cells a c).toArray, .agg (t.cells a' c').toArray].toArray w (fun r w' => ∃ b, (b = true ↔ s = t) ∧ r = .bool b ∧ St W w' F) := by
  refine enter (n := 38) (rs := #[.tmp 4]) Tryd.func21 rfl rfl rfl rfl ?_
  refine w_seq ?_
  refine w_region ?_
  refine b_box (cs := s.cells a c) rfl rfl rfl H (fun b2 w H => ?_)
  refine b_box (cs := t.cells a' c') rfl rfl rfl H (fun b3 w H => ?_)
  refine l_pbool rfl rfl ?_
  refine l_nil ?_
  refine w_seq ?_
  refine w_seq ?_
  refine w_region ?_
  refine l_v rfl (q_fieldAddr rfl fo56_0 rfl) ?_
  refine l_v rfl (q_loadN (vs := cfgV s) rfl ag_53 rfl rfl ((H.cells 1 rfl).sub 0 4)) ?_
  refine l_v rfl (q_fieldAddr rfl fo56_0 rfl) ?_
  refine l_v rfl (q_loadN (vs := cfgV t) rfl ag_53 rfl rfl ((H.cells 0 rfl).sub 0 4)) ?_
  refine l_v rfl (q_neqCfg rfl rfl rfl) ?_
  refine l_pbool rfl rfl ?_
  refine l_split 11 rfl (fun h11 => ?_) (fun h11 => ?_)
  · try simp only [sH] at h11
    refine l_no rfl ?_
    refine l_no rfl ?_
    refine l_no rfl ?_
    refine l_no rfl ?_
    refine l_no rfl ?_
    refine l_no rfl ?_
    refine l_no rfl ?_
    refine l_pickT (v := .bool _) rfl rfl rfl ?_
    refine l_nil ?_
    refine w_cond_t rfl ?_
    refine w_seq ?_
    refine w_region ?_
    refine l_pbool rfl rfl ?_
    refine l_nil ?_
    refine w_ret ?_
    refine fin1 (v := .bool _) rfl ?_
    exact ⟨false, ⟨(fun h => by cases h), (fun h => by subst h; rw [cfg_eq.2 ⟨rfl, rfl, rfl, rfl⟩] at h11; cases h11)⟩, rfl, H.drop1.drop1⟩
  try simp only [sH] at h11
  refine l_v rfl (q_fieldAddr rfl fo56_1 rfl) ?_
  refine l_v rfl (q_load1 rfl c1_54 rfl (by first | exact H.cell 0 rfl rfl | exact H.cell 1 rfl rfl)) ?_
  refine l_v rfl (q_lenSlice rfl el_54 rfl) ?_
  refine l_v rfl (q_fieldAddr rfl fo56_1 rfl) ?_
  refine l_v rfl (q_load1 rfl c1_54 rfl (by first | exact H.cell 0 rfl rfl | exact H.cell 1 rfl rfl)) ?_
  refine l_v rfl (q_lenSlice rfl el_54 rfl) ?_
  refine l_pbool rfl rfl ?_
  refine l_pickF (v := .bool _) rfl rfl rfl ?_
  refine l_nil ?_
  refine w_cond rfl (fun c1 => ?_) (fun c1 => ?_)
  · try simp only [sH] at c1
    refine w_seq ?_
    refine w_region ?_
    refine l_pbool rfl rfl ?_
    refine l_nil ?_
    refine w_ret ?_
    refine fin1 (v := .bool _) rfl ?_
    exact ⟨false, ⟨(fun h => by cases h), (fun h => by subst h; omega)⟩, rfl, H.drop1.drop1⟩
  try simp only [sH] at c1
  refine w_skip ?_
  refine w_seq ?_
  refine w_seq ?_
  refine w_region ?_
  refine l_pint rfl rfl ?_
  refine l_nil ?_
  refine w_block ?_
  refine w_loopG (G := Nat) [4, 5, 20, 21, 22, 23, 24, 25, 26, 27, 28, 29, 30, 31, 32, 33, 34, 35, 36, 37] (fun i => [(5, .int .i64 ((i : Nat) : Int))]) (fun m i w => m + i = s.cls.length ∧ s.cls.take i = t.cls.take i ∧ St W w (blk b3 (t.cells a' c') 56 :: blk b2 (s.cells a c) 56 :: F)) (fun _ => rfl) ?_ ?_
  · exact ⟨s.cls.length, 0, ⟨rfl, trivial⟩, rfl, rfl, H⟩
  rintro m i ρ1 w ⟨hmi, htk, H⟩
  refine w_seq ?_
  refine w_seq ?_
  refine w_region ?_
  refine l_pint rfl rfl ?_
  refine l_v rfl (q_fieldAddr rfl fo56_1 rfl) ?_
  refine l_v rfl (q_load1 rfl c1_54 rfl (by first | exact H.cell 0 rfl rfl | exact H.cell 1 rfl rfl)) ?_
  refine l_v rfl (q_lenSlice rfl el_54 rfl) ?_
  refine l_pbool rfl rfl ?_
  refine l_nil ?_
  refine w_cond rfl (fun c2 => ?_) (fun c2 => ?_)
  · try simp only [sH] at c2
    have hi : i < s.cls.length := by omega
    have hi' : i < t.cls.length := by omega
    obtain ⟨x1, x2, ha1, _⟩ := int_at (hr.use H 2 rfl) hi
    obtain ⟨y1, y2, ha2, _⟩ := int_at (hr'.use H 2 rfl) hi'
    refine w_skip ?_
    refine w_seq ?_
    refine w_block ?_
    refine w_seq ?_
    refine w_drawT [] [1, 4, 6, 9] [(0, 0), (1, 1), (2, 0), (3, 0), (4, 1), (5, 0), (6, 1), (7, 0), (8, 0), (9, 1), (10, 0)] mixed (by kernel_rfl) (fun _ _ _ h => fin_panic h) H (fun H => ?_)
    refine r_w rfl rfl (fun w => q_fieldAddr rfl fo56_1 rfl) ?_
    refine r_v rfl rfl (fun w hS => q_load1 rfl c1_54 rfl (by first | exact hS.cell 0 rfl rfl | exact hS.cell 1 rfl rfl)) ?_
    refine r_pint rfl rfl rfl ?_
    refine r_w rfl rfl (fun w => q_indexSliceE i rfl el_54 rfl ha1 rfl rfl hi) ?_
    refine r_v rfl rfl (fun w hS => q_loadN (vs := [I s.cls[i]]) rfl ag_150 rfl rfl (cls_at ha1 (hr.use hS 2 rfl) hi)) ?_
    refine r_w rfl rfl (fun w => q_fieldAddr rfl fo56_1 rfl) ?_
    refine r_v rfl rfl (fun w hS => q_load1 rfl c1_54 rfl (by first | exact hS.cell 0 rfl rfl | exact hS.cell 1 rfl rfl)) ?_
    refine r_pint rfl rfl rfl ?_
    refine r_w rfl rfl (fun w => q_indexSliceE i rfl el_54 rfl ha2 rfl rfl hi') ?_
    refine r_v rfl rfl (fun w hS => q_loadN (vs := [I t.cls[i]]) rfl ag_150 rfl rfl (cls_at ha2 (hr'.use hS 2 rfl) hi')) ?_
    refine r_w rfl rfl (fun w => q_neqCl rfl rfl rfl) ?_
    refine r_nil ?_
    refine w_cond rfl (fun c3 => ?_) (fun c3 => ?_)
    · try simp only [sH] at c3
      refine w_seq ?_
      refine w_region ?_
      refine l_pbool rfl rfl ?_
      refine l_nil ?_
      refine w_ret ?_
      refine fin1 (v := .bool _) rfl ?_
      exact ⟨false, ⟨(fun h => by cases h), (fun h => by subst h; exact absurd rfl c3)⟩, rfl, H.drop1.drop1⟩
    try simp only [sH] at c3
    refine w_skip ?_
    refine w_region ?_
    refine l_pint rfl rfl ?_
    first | refine l_v rfl (q_add rfl rfl rfl (by simp only [inK]; omega)) ?_ | refine l_pint rfl rfl ?_
    refine l_pint rfl rfl ?_
    refine l_nil ?_
    refine ⟨by repeat' first | exact aM | exact aR | refine aI rfl ?_ | refine aU rfl ?_ | refine aL rfl ?_, ?_⟩
    refine ⟨m - 1, i + 1, by omega, ⟨by exact congrArg (Value.int IntKind.i64) (Int.natCast_succ i).symm, trivial⟩, by omega, ?_, H⟩
    rw [List.take_succ_eq_append_getElem hi, List.take_succ_eq_append_getElem hi', htk, c3]
  try simp only [sH] at c2
  refine w_exit ?_
  refine w_seq ?_
  refine w_region ?_
  refine l_pbool rfl rfl ?_
  refine l_nil ?_
  refine w_ret ?_
  refine fin1 (v := .bool _) rfl ?_
  obtain rfl : i = s.cls.length := by omega
  rw [List.take_length, List.take_of_length_le (by omega)] at htk
  exact ⟨true, ⟨fun _ => stp_eq (cfg_eq.1 (by simpa using h11)) htk, fun _ => rfl⟩, rfl, H.drop1.drop1⟩
theorem evt_eq {x y : Evt} (h1 : x.k = y.k) (h2 : x.nd = y.nd) (h3 : x.cl = y.cl) (h4 : x.ix = y.ix) (h5 : x.pl = y.pl) (h6 : x.ct = y.ct) (h7 : x.cu = y.cu) (h8 : x.hi = y.hi ∧ x.lo = y.lo) (h9 : x.ok = y.ok ∧ x.os = y.os ∧ x.ov = y.ov) (h10 : x.bs = y.bs) : x = y := by
  obtain ⟨_, _⟩ := h8; obtain ⟨_, _, _⟩ := h9
  cases x; cases y; simp_all
theorem sameEvent_ok {W w : World} {F : List Seg} (H : St W w F) {x y : Evt} {a a' : Option Addr} {c c' : Nat} (hr : RdIn W F a (x.bs.map B)) (hr' : RdIn W F a' (y.bs.map B)) :
    Ok Tryd.prog 17 [.agg (x.cells a c).toArray, .agg (y.cells a' c').toArray].toArray w (fun r w' => ∃ b, (b = true ↔ x = y) ∧ r = .bool b ∧ St W w' F) := by
  refine enter (n := 75) (rs := #[.tmp 4]) Tryd.func17 rfl rfl rfl rfl ?_
  refine w_seq ?_
  refine w_region ?_
  refine b_box (cs := x.cells a c) rfl rfl rfl H (fun b2 w H => ?_)
  refine b_box (cs := y.cells a' c') rfl rfl rfl H (fun b3 w H => ?_)
  refine l_pbool rfl rfl ?_
  refine l_nil ?_
  refine w_seq ?_
  refine w_region ?_
  refine l_v rfl (q_fieldAddr rfl fo30_0 rfl) ?_
  refine l_v rfl (q_load1 (v := I x.k) rfl c1_22 rfl (H.cell 1 rfl rfl)) ?_
  refine l_v rfl (q_fieldAddr rfl fo30_0 rfl) ?_
  refine l_v rfl (q_load1 (v := I y.k) rfl c1_22 rfl (H.cell 0 rfl rfl)) ?_
  refine l_pbool rfl rfl ?_
  refine l_pbool rfl rfl ?_
  refine l_split 10 rfl (fun h10 => ?_) (fun h10 => ?_)
  · try simp only [sH] at h10
    refine l_v rfl (q_fieldAddr rfl fo30_1 rfl) ?_
    refine l_v rfl (q_load1 (v := I x.nd) rfl c1_3 rfl (H.cell 1 rfl rfl)) ?_
    refine l_v rfl (q_fieldAddr rfl fo30_1 rfl) ?_
    refine l_v rfl (q_load1 (v := I y.nd) rfl c1_3 rfl (H.cell 0 rfl rfl)) ?_
    refine l_pbool rfl rfl ?_
    refine l_pickT (v := .bool _) rfl rfl rfl ?_
    refine l_pbool rfl rfl ?_
    refine l_split 17 rfl (fun h17 => ?_) (fun h17 => ?_)
    · try simp only [sH] at h17
      refine l_v rfl (q_fieldAddr rfl fo30_2 rfl) ?_
      refine l_v rfl (q_load1 (v := I x.cl) rfl c1_3 rfl (H.cell 1 rfl rfl)) ?_
      refine l_v rfl (q_fieldAddr rfl fo30_2 rfl) ?_
      refine l_v rfl (q_load1 (v := I y.cl) rfl c1_3 rfl (H.cell 0 rfl rfl)) ?_
      refine l_pbool rfl rfl ?_
      refine l_pickT (v := .bool _) rfl rfl rfl ?_
      refine l_pbool rfl rfl ?_
      refine l_split 24 rfl (fun h24 => ?_) (fun h24 => ?_)
      · try simp only [sH] at h24
        refine l_v rfl (q_fieldAddr rfl fo30_3 rfl) ?_
        refine l_v rfl (q_load1 (v := I x.ix) rfl c1_3 rfl (H.cell 1 rfl rfl)) ?_
        refine l_v rfl (q_fieldAddr rfl fo30_3 rfl) ?_
        refine l_v rfl (q_load1 (v := I y.ix) rfl c1_3 rfl (H.cell 0 rfl rfl)) ?_
        refine l_pbool rfl rfl ?_
        refine l_pickT (v := .bool _) rfl rfl rfl ?_
        refine l_pbool rfl rfl ?_
        refine l_split 31 rfl (fun h31 => ?_) (fun h31 => ?_)
        · try simp only [sH] at h31
          refine l_v rfl (q_fieldAddr rfl fo30_4 rfl) ?_
          refine l_v rfl (q_load1 (v := I x.pl) rfl c1_3 rfl (H.cell 1 rfl rfl)) ?_
          refine l_v rfl (q_fieldAddr rfl fo30_4 rfl) ?_
          refine l_v rfl (q_load1 (v := I y.pl) rfl c1_3 rfl (H.cell 0 rfl rfl)) ?_
          refine l_pbool rfl rfl ?_
          refine l_pickT (v := .bool _) rfl rfl rfl ?_
          refine l_pbool rfl rfl ?_
          refine l_split 38 rfl (fun h38 => ?_) (fun h38 => ?_)
          · try simp only [sH] at h38
            refine l_v rfl (q_fieldAddr rfl fo30_5 rfl) ?_
            refine l_v rfl (q_load1 (v := I x.ct) rfl c1_3 rfl (H.cell 1 rfl rfl)) ?_
            refine l_v rfl (q_fieldAddr rfl fo30_5 rfl) ?_
            refine l_v rfl (q_load1 (v := I y.ct) rfl c1_3 rfl (H.cell 0 rfl rfl)) ?_
            refine l_pbool rfl rfl ?_
            refine l_pickT (v := .bool _) rfl rfl rfl ?_
            refine l_pbool rfl rfl ?_
            refine l_split 45 rfl (fun h45 => ?_) (fun h45 => ?_)
            · try simp only [sH] at h45
              refine l_v rfl (q_fieldAddr rfl fo30_6 rfl) ?_
              refine l_v rfl (q_load1 (v := I x.cu) rfl c1_3 rfl (H.cell 1 rfl rfl)) ?_
              refine l_v rfl (q_fieldAddr rfl fo30_6 rfl) ?_
              refine l_v rfl (q_load1 (v := I y.cu) rfl c1_3 rfl (H.cell 0 rfl rfl)) ?_
              refine l_pbool rfl rfl ?_
              refine l_pickT (v := .bool _) rfl rfl rfl ?_
              refine l_pbool rfl rfl ?_
              refine l_split 52 rfl (fun h52 => ?_) (fun h52 => ?_)
              · try simp only [sH] at h52
                refine l_v rfl (q_fieldAddr rfl fo30_7 rfl) ?_
                refine l_v rfl (q_loadN (vs := drV x) rfl ag_25 rfl rfl ((H.cells 1 rfl).sub 7 2)) ?_
                refine l_v rfl (q_fieldAddr rfl fo30_7 rfl) ?_
                refine l_v rfl (q_loadN (vs := drV y) rfl ag_25 rfl rfl ((H.cells 0 rfl).sub 7 2)) ?_
                refine l_v rfl (q_eqlDr rfl rfl rfl) ?_
                refine l_pickT (v := .bool _) rfl rfl rfl ?_
                refine l_pbool rfl rfl ?_
                refine l_split 59 rfl (fun h59 => ?_) (fun h59 => ?_)
                · try simp only [sH] at h59
                  refine l_v rfl (q_fieldAddr rfl fo30_8 rfl) ?_
                  refine l_v rfl (q_loadN (vs := opV x) rfl ag_27 rfl rfl ((H.cells 1 rfl).sub 9 3)) ?_
                  refine l_v rfl (q_fieldAddr rfl fo30_8 rfl) ?_
                  refine l_v rfl (q_loadN (vs := opV y) rfl ag_27 rfl rfl ((H.cells 0 rfl).sub 9 3)) ?_
                  refine l_v rfl (q_eqlOp rfl rfl rfl) ?_
                  refine l_pickT (v := .bool _) rfl rfl rfl ?_
                  refine l_pbool rfl rfl ?_
                  refine l_split 66 rfl (fun h66 => ?_) (fun h66 => ?_)
                  · try simp only [sH] at h66
                    refine l_v rfl (q_fieldAddr rfl fo30_9 rfl) ?_
                    refine l_v rfl (q_load1 (v := .slice a x.bs.length c) rfl c1_28 rfl (H.cell 1 rfl rfl)) ?_
                    refine l_v rfl (q_bytesStr (bs := x.bs) rfl by_28 st_9 rfl (hr.use H 2 rfl) rfl) ?_
                    refine l_v rfl (q_fieldAddr rfl fo30_9 rfl) ?_
                    refine l_v rfl (q_load1 (v := .slice a' y.bs.length c') rfl c1_28 rfl (H.cell 0 rfl rfl)) ?_
                    refine l_v rfl (q_bytesStr (bs := y.bs) rfl by_28 st_9 rfl (hr'.use H 2 rfl) rfl) ?_
                    refine l_v rfl (q_pure (s_eql rfl rfl)) ?_
                    refine l_pickT (v := .bool _) rfl rfl rfl ?_
                    refine l_pbool rfl rfl ?_
                    refine l_nil ?_
                    refine w_ret ?_
                    refine fin1 (v := .bool _) rfl ?_
                    refine ⟨_, ?_, rfl, H.drop1.drop1⟩
                    rw [decide_eq_true_iff]
                    exact ⟨fun h => evt_eq h10 h17 h24 h31 h38 h45 h52 (dr_eq.1 h59) (op_eq.1 h66) h, fun h => by rw [h]⟩
                  try simp only [sH] at h66
                  refine l_no rfl ?_
                  refine l_no rfl ?_
                  refine l_no rfl ?_
                  refine l_no rfl ?_
                  refine l_no rfl ?_
                  refine l_no rfl ?_
                  refine l_no rfl ?_
                  refine l_pickF (v := .bool _) rfl rfl rfl ?_
                  refine l_pbool rfl rfl ?_
                  refine l_nil ?_
                  refine w_ret ?_
                  refine fin1 (v := .bool _) rfl ?_
                  exact ⟨false, ⟨(fun h => by cases h), (fun h => by subst h; rw [op_eq.2 ⟨rfl, rfl, rfl⟩] at h66; cases h66)⟩, rfl, H.drop1.drop1⟩
                try simp only [sH] at h59
                refine l_no rfl ?_
                refine l_no rfl ?_
                refine l_no rfl ?_
                refine l_no rfl ?_
                refine l_no rfl ?_
                refine l_pickF (v := .bool _) rfl rfl rfl ?_
                refine l_pbool rfl rfl ?_
                refine l_no rfl ?_
                refine l_no rfl ?_
                refine l_no rfl ?_
                refine l_no rfl ?_
                refine l_no rfl ?_
                refine l_no rfl ?_
                refine l_no rfl ?_
                refine l_pickF (v := .bool _) rfl rfl rfl ?_
                refine l_pbool rfl rfl ?_
                refine l_nil ?_
                refine w_ret ?_
                refine fin1 (v := .bool _) rfl ?_
                exact ⟨false, ⟨(fun h => by cases h), (fun h => by subst h; rw [dr_eq.2 ⟨rfl, rfl⟩] at h59; cases h59)⟩, rfl, H.drop1.drop1⟩
              try simp only [sH] at h52
              refine l_no rfl ?_
              refine l_no rfl ?_
              refine l_no rfl ?_
              refine l_no rfl ?_
              refine l_no rfl ?_
              refine l_pickF (v := .bool _) rfl rfl rfl ?_
              refine l_pbool rfl rfl ?_
              refine l_no rfl ?_
              refine l_no rfl ?_
              refine l_no rfl ?_
              refine l_no rfl ?_
              refine l_no rfl ?_
              refine l_pickF (v := .bool _) rfl rfl rfl ?_
              refine l_pbool rfl rfl ?_
              refine l_no rfl ?_
              refine l_no rfl ?_
              refine l_no rfl ?_
              refine l_no rfl ?_
              refine l_no rfl ?_
              refine l_no rfl ?_
              refine l_no rfl ?_
              refine l_pickF (v := .bool _) rfl rfl rfl ?_
              refine l_pbool rfl rfl ?_
              refine l_nil ?_
              refine w_ret ?_
              refine fin1 (v := .bool _) rfl ?_
              exact ⟨false, ⟨(fun h => by cases h), (fun h => by subst h; exact absurd rfl h52)⟩, rfl, H.drop1.drop1⟩
            try simp only [sH] at h45
            refine l_no rfl ?_
            refine l_no rfl ?_
            refine l_no rfl ?_
            refine l_no rfl ?_
            refine l_no rfl ?_
            refine l_pickF (v := .bool _) rfl rfl rfl ?_
            refine l_pbool rfl rfl ?_
            refine l_no rfl ?_
            refine l_no rfl ?_
            refine l_no rfl ?_
            refine l_no rfl ?_
            refine l_no rfl ?_
            refine l_pickF (v := .bool _) rfl rfl rfl ?_
            refine l_pbool rfl rfl ?_
            refine l_no rfl ?_
            refine l_no rfl ?_
            refine l_no rfl ?_
            refine l_no rfl ?_
            refine l_no rfl ?_
            refine l_pickF (v := .bool _) rfl rfl rfl ?_
            refine l_pbool rfl rfl ?_
            refine l_no rfl ?_
            refine l_no rfl ?_
            refine l_no rfl ?_
            refine l_no rfl ?_
            refine l_no rfl ?_
            refine l_no rfl ?_
            refine l_no rfl ?_
            refine l_pickF (v := .bool _) rfl rfl rfl ?_
            refine l_pbool rfl rfl ?_
            refine l_nil ?_
            refine w_ret ?_
            refine fin1 (v := .bool _) rfl ?_
            exact ⟨false, ⟨(fun h => by cases h), (fun h => by subst h; exact absurd rfl h45)⟩, rfl, H.drop1.drop1⟩
          try simp only [sH] at h38
          refine l_no rfl ?_
          refine l_no rfl ?_
          refine l_no rfl ?_
          refine l_no rfl ?_
          refine l_no rfl ?_
          refine l_pickF (v := .bool _) rfl rfl rfl ?_
          refine l_pbool rfl rfl ?_
          refine l_no rfl ?_
          refine l_no rfl ?_
          refine l_no rfl ?_
          refine l_no rfl ?_
          refine l_no rfl ?_
          refine l_pickF (v := .bool _) rfl rfl rfl ?_
          refine l_pbool rfl rfl ?_
          refine l_no rfl ?_
          refine l_no rfl ?_
          refine l_no rfl ?_
          refine l_no rfl ?_
          refine l_no rfl ?_
          refine l_pickF (v := .bool _) rfl rfl rfl ?_
          refine l_pbool rfl rfl ?_
          refine l_no rfl ?_
          refine l_no rfl ?_
          refine l_no rfl ?_
          refine l_no rfl ?_
          refine l_no rfl ?_
          refine l_pickF (v := .bool _) rfl rfl rfl ?_
          refine l_pbool rfl rfl ?_
          refine l_no rfl ?_
          refine l_no rfl ?_
          refine l_no rfl ?_
          refine l_no rfl ?_
          refine l_no rfl ?_
          refine l_no rfl ?_
          refine l_no rfl ?_
          refine l_pickF (v := .bool _) rfl rfl rfl ?_
          refine l_pbool rfl rfl ?_
          refine l_nil ?_
          refine w_ret ?_
          refine fin1 (v := .bool _) rfl ?_
          exact ⟨false, ⟨(fun h => by cases h), (fun h => by subst h; exact absurd rfl h38)⟩, rfl, H.drop1.drop1⟩
        try simp only [sH] at h31
        refine l_no rfl ?_
        refine l_no rfl ?_
        refine l_no rfl ?_
        refine l_no rfl ?_
        refine l_no rfl ?_
        refine l_pickF (v := .bool _) rfl rfl rfl ?_
        refine l_pbool rfl rfl ?_
        refine l_no rfl ?_
        refine l_no rfl ?_
        refine l_no rfl ?_
        refine l_no rfl ?_
        refine l_no rfl ?_
        refine l_pickF (v := .bool _) rfl rfl rfl ?_
        refine l_pbool rfl rfl ?_
        refine l_no rfl ?_
        refine l_no rfl ?_
        refine l_no rfl ?_
        refine l_no rfl ?_
        refine l_no rfl ?_
        refine l_pickF (v := .bool _) rfl rfl rfl ?_
        refine l_pbool rfl rfl ?_
        refine l_no rfl ?_
        refine l_no rfl ?_
        refine l_no rfl ?_
        refine l_no rfl ?_
        refine l_no rfl ?_
        refine l_pickF (v := .bool _) rfl rfl rfl ?_
        refine l_pbool rfl rfl ?_
        refine l_no rfl ?_
        refine l_no rfl ?_
        refine l_no rfl ?_
        refine l_no rfl ?_
        refine l_no rfl ?_
        refine l_pickF (v := .bool _) rfl rfl rfl ?_
        refine l_pbool rfl rfl ?_
        refine l_no rfl ?_
        refine l_no rfl ?_
        refine l_no rfl ?_
        refine l_no rfl ?_
        refine l_no rfl ?_
        refine l_no rfl ?_
        refine l_no rfl ?_
        refine l_pickF (v := .bool _) rfl rfl rfl ?_
        refine l_pbool rfl rfl ?_
        refine l_nil ?_
        refine w_ret ?_
        refine fin1 (v := .bool _) rfl ?_
        exact ⟨false, ⟨(fun h => by cases h), (fun h => by subst h; exact absurd rfl h31)⟩, rfl, H.drop1.drop1⟩
      try simp only [sH] at h24
      refine l_no rfl ?_
      refine l_no rfl ?_
      refine l_no rfl ?_
      refine l_no rfl ?_
      refine l_no rfl ?_
      refine l_pickF (v := .bool _) rfl rfl rfl ?_
      refine l_pbool rfl rfl ?_
      refine l_no rfl ?_
      refine l_no rfl ?_
      refine l_no rfl ?_
      refine l_no rfl ?_
      refine l_no rfl ?_
      refine l_pickF (v := .bool _) rfl rfl rfl ?_
      refine l_pbool rfl rfl ?_
      refine l_no rfl ?_
      refine l_no rfl ?_
      refine l_no rfl ?_
      refine l_no rfl ?_
      refine l_no rfl ?_
      refine l_pickF (v := .bool _) rfl rfl rfl ?_
      refine l_pbool rfl rfl ?_
      refine l_no rfl ?_
      refine l_no rfl ?_
      refine l_no rfl ?_
      refine l_no rfl ?_
      refine l_no rfl ?_
      refine l_pickF (v := .bool _) rfl rfl rfl ?_
      refine l_pbool rfl rfl ?_
      refine l_no rfl ?_
      refine l_no rfl ?_
      refine l_no rfl ?_
      refine l_no rfl ?_
      refine l_no rfl ?_
      refine l_pickF (v := .bool _) rfl rfl rfl ?_
      refine l_pbool rfl rfl ?_
      refine l_no rfl ?_
      refine l_no rfl ?_
      refine l_no rfl ?_
      refine l_no rfl ?_
      refine l_no rfl ?_
      refine l_pickF (v := .bool _) rfl rfl rfl ?_
      refine l_pbool rfl rfl ?_
      refine l_no rfl ?_
      refine l_no rfl ?_
      refine l_no rfl ?_
      refine l_no rfl ?_
      refine l_no rfl ?_
      refine l_no rfl ?_
      refine l_no rfl ?_
      refine l_pickF (v := .bool _) rfl rfl rfl ?_
      refine l_pbool rfl rfl ?_
      refine l_nil ?_
      refine w_ret ?_
      refine fin1 (v := .bool _) rfl ?_
      exact ⟨false, ⟨(fun h => by cases h), (fun h => by subst h; exact absurd rfl h24)⟩, rfl, H.drop1.drop1⟩
    try simp only [sH] at h17
    refine l_no rfl ?_
    refine l_no rfl ?_
    refine l_no rfl ?_
    refine l_no rfl ?_
    refine l_no rfl ?_
    refine l_pickF (v := .bool _) rfl rfl rfl ?_
    refine l_pbool rfl rfl ?_
    refine l_no rfl ?_
    refine l_no rfl ?_
    refine l_no rfl ?_
    refine l_no rfl ?_
    refine l_no rfl ?_
    refine l_pickF (v := .bool _) rfl rfl rfl ?_
    refine l_pbool rfl rfl ?_
    refine l_no rfl ?_
    refine l_no rfl ?_
    refine l_no rfl ?_
    refine l_no rfl ?_
    refine l_no rfl ?_
    refine l_pickF (v := .bool _) rfl rfl rfl ?_
    refine l_pbool rfl rfl ?_
    refine l_no rfl ?_
    refine l_no rfl ?_
    refine l_no rfl ?_
    refine l_no rfl ?_
    refine l_no rfl ?_
    refine l_pickF (v := .bool _) rfl rfl rfl ?_
    refine l_pbool rfl rfl ?_
    refine l_no rfl ?_
    refine l_no rfl ?_
    refine l_no rfl ?_
    refine l_no rfl ?_
    refine l_no rfl ?_
    refine l_pickF (v := .bool _) rfl rfl rfl ?_
    refine l_pbool rfl rfl ?_
    refine l_no rfl ?_
    refine l_no rfl ?_
    refine l_no rfl ?_
    refine l_no rfl ?_
    refine l_no rfl ?_
    refine l_pickF (v := .bool _) rfl rfl rfl ?_
    refine l_pbool rfl rfl ?_
    refine l_no rfl ?_
    refine l_no rfl ?_
    refine l_no rfl ?_
    refine l_no rfl ?_
    refine l_no rfl ?_
    refine l_pickF (v := .bool _) rfl rfl rfl ?_
    refine l_pbool rfl rfl ?_
    refine l_no rfl ?_
    refine l_no rfl ?_
    refine l_no rfl ?_
    refine l_no rfl ?_
    refine l_no rfl ?_
    refine l_no rfl ?_
    refine l_no rfl ?_
    refine l_pickF (v := .bool _) rfl rfl rfl ?_
    refine l_pbool rfl rfl ?_
    refine l_nil ?_
    refine w_ret ?_
    refine fin1 (v := .bool _) rfl ?_
    exact ⟨false, ⟨(fun h => by cases h), (fun h => by subst h; exact absurd rfl h17)⟩, rfl, H.drop1.drop1⟩
  try simp only [sH] at h10
  refine l_no rfl ?_
  refine l_no rfl ?_
  refine l_no rfl ?_
  refine l_no rfl ?_
  refine l_no rfl ?_
  refine l_pickF (v := .bool _) rfl rfl rfl ?_
  refine l_pbool rfl rfl ?_
  refine l_no rfl ?_
  refine l_no rfl ?_
  refine l_no rfl ?_
  refine l_no rfl ?_
  refine l_no rfl ?_
  refine l_pickF (v := .bool _) rfl rfl rfl ?_
  refine l_pbool rfl rfl ?_
  refine l_no rfl ?_
  refine l_no rfl ?_
  refine l_no rfl ?_
  refine l_no rfl ?_
  refine l_no rfl ?_
  refine l_pickF (v := .bool _) rfl rfl rfl ?_
  refine l_pbool rfl rfl ?_
  refine l_no rfl ?_
  refine l_no rfl ?_
  refine l_no rfl ?_
  refine l_no rfl ?_
  refine l_no rfl ?_
  refine l_pickF (v := .bool _) rfl rfl rfl ?_
  refine l_pbool rfl rfl ?_
  refine l_no rfl ?_
  refine l_no rfl ?_
  refine l_no rfl ?_
  refine l_no rfl ?_
  refine l_no rfl ?_
  refine l_pickF (v := .bool _) rfl rfl rfl ?_
  refine l_pbool rfl rfl ?_
  refine l_no rfl ?_
  refine l_no rfl ?_
  refine l_no rfl ?_
  refine l_no rfl ?_
  refine l_no rfl ?_
  refine l_pickF (v := .bool _) rfl rfl rfl ?_
  refine l_pbool rfl rfl ?_
  refine l_no rfl ?_
  refine l_no rfl ?_
  refine l_no rfl ?_
  refine l_no rfl ?_
  refine l_no rfl ?_
  refine l_pickF (v := .bool _) rfl rfl rfl ?_
  refine l_pbool rfl rfl ?_
  refine l_no rfl ?_
  refine l_no rfl ?_
  refine l_no rfl ?_
  refine l_no rfl ?_
  refine l_no rfl ?_
  refine l_pickF (v := .bool _) rfl rfl rfl ?_
  refine l_pbool rfl rfl ?_
  refine l_no rfl ?_
  refine l_no rfl ?_
  refine l_no rfl ?_
  refine l_no rfl ?_
  refine l_no rfl ?_
  refine l_no rfl ?_
  refine l_no rfl ?_
  refine l_pickF (v := .bool _) rfl rfl rfl ?_
  refine l_pbool rfl rfl ?_
  refine l_nil ?_
  refine w_ret ?_
  refine fin1 (v := .bool _) rfl ?_
  exact ⟨false, ⟨(fun h => by cases h), (fun h => by subst h; exact absurd rfl h10)⟩, rfl, H.drop1.drop1⟩
end Go.Proofs.YtfpmnhmdphaceaaDoor
