/- The law DigestTexts answers true, of every hash and every text. -/
import Derived.Test.YtcmmbjplekgihaaDigAbc
import Derived.Test.YtcmmbjplekgihaaTextLaw
namespace Go.Proofs.Ytcmmbjplekgihaa
open Go.EW
attribute [local irreducible] EW.W EW.L EW.fin block8 outB parA pgo hexL shaL digitI
set_option linter.unusedVariables false
set_option linter.unusedSimpArgs false

theorem flat_32 : flatK Try.prog 8 32 = some (List.replicate 32 (.int .u8)) := by kernel_rfl
theorem und_32 : Try.prog.underlying 32 = some (.array 32 5) := by kernel_rfl
theorem mk_32 (xs : List Value) : mkV Try.prog 32 xs = .agg xs.toArray := by simp only [mkV, und_32]
theorem gd_32 : Try.prog.eqGuardType Try.prog.depth 32 = false := by kernel_rfl
theorem q_eqlHash {e : Operand → Value} {oo : Oper} {x y : Operand} {T' : TypeId} {xs ys : List UInt8} {w : World} (ho : oo.op = .binOp .eql 32 x y T') (hx : e x = .agg (xs.map B).toArray) (hy : e y = .agg (ys.map B).toArray) (hxl : xs.length = 32) (hyl : ys.length = 32) :
    (execOp e oo).run Try.prog w = .ok (.value (.bool (decide (xs = ys)))) w := by
  rw [← eqL_bytes xs ys (by omega)]
  exact q_eqlAgg ho flat_32 (mk_32 _) (mk_32 _) gd_32 hx hy (by rw [← hxl]; exact fit_bytes xs) (by rw [← hyl]; exact fit_bytes ys)
theorem q_neqHash {e : Operand → Value} {oo : Oper} {x y : Operand} {T' : TypeId} {xs ys : List UInt8} {w : World} (ho : oo.op = .binOp .neq 32 x y T') (hx : e x = .agg (xs.map B).toArray) (hy : e y = .agg (ys.map B).toArray) (hxl : xs.length = 32) (hyl : ys.length = 32) :
    (execOp e oo).run Try.prog w = .ok (.value (.bool (!decide (xs = ys)))) w := by
  rw [← eqL_bytes xs ys (by omega)]
  exact q_neqAgg ho flat_32 (mk_32 _) (mk_32 _) gd_32 hx hy (by rw [← hxl]; exact fit_bytes xs) (by rw [← hyl]; exact fit_bytes ys)
theorem parse_len (t : List UInt8) : (parseL t).1.length = 32 := by
  rcases parse_cases t with ⟨h, _⟩ | ⟨p, h, _⟩
  · rw [h]; exact parA_len _ _
  · rw [h]; simp

theorem alive_ok {W w : World} {F : List Seg} (H : St W w F) :
    Ok Try.prog 14 [].toArray w (fun v w' => v = .bool true ∧ St W w' F) := by
  refine enter (n := 6) (rs := #[.tmp 0]) Try.func14 rfl rfl rfl rfl ?_
  refine w_seq ?_
  refine w_region ?_
  refine l_pbool rfl rfl ?_
  refine l_nil ?_
  refine w_seq ?_
  refine w_region ?_
  refine b_buildSlice (cs := [B 97, B 98, B 99]) rfl el_22 ze_5 rfl rfl rfl H (fun b1 w H => ?_)
  first | refine b_markBytes rfl by_22 rfl H 0 rfl (fun w H => ?_) | refine b_markBytes rfl by_22 rfl H 1 rfl (fun w H => ?_) | refine b_markBytes rfl by_22 rfl H 2 rfl (fun w H => ?_) | refine b_markBytes rfl by_22 rfl H 3 rfl (fun w H => ?_) | refine b_markBytes rfl by_22 rfl H 4 rfl (fun w H => ?_) | refine b_markBytes rfl by_22 rfl H 5 rfl (fun w H => ?_) | refine b_markBytes rfl by_22 rfl H 6 rfl (fun w H => ?_) | refine b_markBytes rfl by_22 rfl H 7 rfl (fun w H => ?_) | refine b_markBytes rfl by_22 rfl H 8 rfl (fun w H => ?_) | refine b_markBytes rfl by_22 rfl H 9 rfl (fun w H => ?_)
  refine b_call rfl cb_9 rfl (SumB_ok H (bs := [97, 98, 99]) (RdIn.blk 0 rfl) (by decide) (by decide)) (fun v w hv => ?_)
  obtain ⟨rfl, H⟩ := hv
  refine b_call rfl cb_23 rfl (Print_ok H (h := shaL [97, 98, 99]) (shaL_len _)) (fun v w hv => ?_)
  obtain ⟨rfl, H⟩ := hv
  refine l_pbool rfl rfl ?_
  refine l_pbool rfl rfl ?_
  refine l_nil ?_
  refine w_ret ?_
  refine fin1 (v := .bool _) rfl ?_
  refine ⟨?_, H.erase 0⟩
  rw [abc_hex]
  exact congrArg Value.bool (beq_self_eq_true _)

theorem DigestTexts_ok {W w : World} {F : List Seg} (H : St W w F) {h : List UInt8} (hh : h.length = 32) (s : ByteArray) :
    Ok Try.prog 6 [.agg (h.map B).toArray, .string s].toArray w (fun v w' => v = .bool true ∧ ∃ S, St W w' S) := by
  refine enter (n := 47) (rs := #[.tmp 4]) Try.func6 rfl rfl rfl rfl ?_
  refine w_seq ?_
  refine w_region ?_
  refine b_box rfl rfl rfl H (fun b2 w H => ?_)
  refine l_pbool rfl rfl ?_
  refine l_nil ?_
  refine w_seq ?_
  refine w_region ?_
  refine l_pstr rfl rfl ?_
  refine b_call rfl cb_21 rfl (Parse_ok H s) (fun v w hv => ?_)
  obtain ⟨rfl, H⟩ := hv
  refine l_ptup rfl rfl ?_
  refine l_pagg rfl rfl ?_
  refine l_pint rfl rfl ?_
  refine l_pint rfl rfl ?_
  refine b_alloc rfl ze_32 rfl H (fun b5 w H => ?_)
  refine b_store (vs := (parseL s.data.toList).1.map B) rfl sz_32 rfl rfl rfl (by simp [parse_len]) (all1 _) H 0 rfl (by simp [parse_len]) (putL_all (by simp [parse_len])) (fun w H => ?_)
  refine l_pint rfl rfl ?_
  refine l_pint rfl rfl ?_
  refine l_nil ?_
  refine w_seq ?_
  refine w_region ?_
  refine l_pstr rfl rfl ?_
  refine b_call rfl cb_22 rfl (rParse_ok H s) (fun v w hv => ?_)
  obtain ⟨rfl, H⟩ := hv
  refine l_ptup rfl rfl ?_
  refine l_pagg rfl rfl ?_
  refine l_pint rfl rfl ?_
  refine l_pint rfl rfl ?_
  refine b_alloc rfl ze_32 rfl H (fun b8 w H => ?_)
  refine b_store (vs := (parseL s.data.toList).1.map B) rfl sz_32 rfl rfl rfl (by simp [parse_len]) (all1 _) H 0 rfl (by simp [parse_len]) (putL_all (by simp [parse_len])) (fun w H => ?_)
  refine l_pint rfl rfl ?_
  refine l_pint rfl rfl ?_
  refine l_nil ?_
  refine w_seq ?_
  refine w_drawT [12, 22] [0, 2, 6, 7] [(0, 1), (2, 1), (1, 2), (3, 2), (4, 0), (5, 0), (6, 1), (7, 1), (8, 0), (9, 0), (10, 0), (11, 0), (13, 0), (12, 2), (14, 0), (15, 0), (16, 0), (17, 0), (18, 0), (19, 0), (20, 0), (21, 0), (22, 2), (23, 0), (24, 0)] mixed (by kernel_rfl) (fun _ _ _ h => fin_panic h) H (fun H => ?_)
  refine r_v rfl rfl (fun w hS => q_loadN (vs := h.map B) rfl ag_32 rfl (by simp [hh]) (hS.cells 2 rfl)) ?_
  refine r_v rfl rfl (fun w hS => q_loadN (vs := h.map B) rfl ag_32 rfl (by simp [hh]) (hS.cells 2 rfl)) ?_
  refine r_do rfl ?_
  refine b_call rfl cb_23 rfl (Print_ok H hh) (fun v w hv => ?_)
  obtain ⟨rfl, H⟩ := hv
  refine l_nil ⟨fun _ _ => H, ?_⟩
  refine r_do rfl ?_
  refine b_call rfl cb_24 rfl (rPrint_ok H hh) (fun v w hv => ?_)
  obtain ⟨rfl, H⟩ := hv
  refine l_nil ⟨fun _ _ => H, ?_⟩
  refine r_pbool rfl rfl rfl ?_
  refine r_pbool rfl rfl rfl ?_
  refine r_split 28 rfl (fun h28 => ?_) (fun h28 => absurd h28 (by simp))
  try simp only [decide_eq_true_eq, decide_eq_false_iff_not, Bool.not_eq_true', Bool.not_eq_false', beq_iff_eq, beq_eq_false_iff_ne, bne_iff_ne, bne_eq_false_iff_eq, ne_eq, Int.not_lt, Int.not_le] at h28
  refine r_v rfl rfl (fun w hS => q_loadN (vs := (parseL s.data.toList).1.map B) rfl ag_32 rfl (by simp [parse_len]) (hS.cells 1 rfl)) ?_
  refine r_v rfl rfl (fun w hS => q_loadN (vs := (parseL s.data.toList).1.map B) rfl ag_32 rfl (by simp [parse_len]) (hS.cells 0 rfl)) ?_
  refine r_w rfl rfl (fun w => q_eqlHash rfl rfl rfl (parse_len _) (parse_len _)) ?_
  refine r_pickT (v := .bool _) rfl rfl rfl rfl ?_
  refine r_pbool rfl rfl rfl ?_
  refine r_split 33 rfl (fun h33 => ?_) (fun h33 => absurd h33 (by simp))
  try simp only [decide_eq_true_eq, decide_eq_false_iff_not, Bool.not_eq_true', Bool.not_eq_false', beq_iff_eq, beq_eq_false_iff_ne, bne_iff_ne, bne_eq_false_iff_eq, ne_eq, Int.not_lt, Int.not_le] at h33
  refine r_pint rfl rfl rfl ?_
  refine r_pint rfl rfl rfl ?_
  refine r_do rfl ?_
  refine b_call rfl cb_25 rfl (num_ok _) (fun v w hv => ?_)
  obtain ⟨rfl, rfl⟩ := hv
  refine l_nil ⟨(fun h => nomatch h), ?_⟩
  refine r_pbool rfl rfl rfl ?_
  refine r_pickT (v := .bool _) rfl rfl rfl rfl ?_
  refine r_pbool rfl rfl rfl ?_
  refine r_split 39 rfl (fun h39 => ?_) (fun h39 => absurd h39 (by simp))
  try simp only [decide_eq_true_eq, decide_eq_false_iff_not, Bool.not_eq_true', Bool.not_eq_false', beq_iff_eq, beq_eq_false_iff_ne, bne_iff_ne, bne_eq_false_iff_eq, ne_eq, Int.not_lt, Int.not_le] at h39
  refine r_pint rfl rfl rfl ?_
  refine r_pint rfl rfl rfl ?_
  refine r_pbool rfl rfl rfl ?_
  refine r_pickT (v := .bool _) rfl rfl rfl rfl ?_
  refine r_pbool rfl rfl rfl ?_
  refine r_split 44 rfl (fun h44 => ?_) (fun h44 => absurd h44 (by simp))
  try simp only [decide_eq_true_eq, decide_eq_false_iff_not, Bool.not_eq_true', Bool.not_eq_false', beq_iff_eq, beq_eq_false_iff_ne, bne_iff_ne, bne_eq_false_iff_eq, ne_eq, Int.not_lt, Int.not_le] at h44
  refine r_do rfl ?_
  refine b_call rfl cb_14 rfl (alive_ok H) (fun v w hv => ?_)
  obtain ⟨rfl, H⟩ := hv
  refine l_nil ⟨(fun h => nomatch h), ?_⟩
  refine r_pickT (v := .bool _) rfl rfl rfl rfl ?_
  refine r_pbool rfl rfl rfl ?_
  refine r_nil ?_
  refine w_ret ?_
  refine fin1 (v := .bool _) rfl ?_
  exact ⟨rfl, _, H⟩

end Go.Proofs.Ytcmmbjplekgihaa
