/- A part of this claim: laws of the tape's functions and of plain lists; no conditions beyond those that the theorems name. -/
import Derived.Test.YtfpmnhmdphaceaaGreatDoorZap36
import Derived.Test.YtfpmnhmdphaceaaGreatDoorZapKAll
namespace Go.Proofs.YtfpmnhmdphaceaaGreatDoor
open Go.EW
attribute [local irreducible] EW.W EW.L EW.fin block8 outB shaL
set_option linter.unusedVariables false
set_option linter.unusedSimpArgs false
attribute [local irreducible] crcN crcB crcL sealL openR sealR
theorem i64_shlN {e : Operand → Value} {T T' : TypeId} {x y : Operand} {k : IntKind} {v : Nat} (n : Nat) (hx : e x = .int .i64 (v : Int)) (hy : e y = .int k (n : Int)) (hn : n ≤ 64) (hv : v * 2 ^ n < 9223372036854775808) : pureV e (.binOp .shl T x y T') = some (.int .i64 ((v * 2 ^ n : Nat) : Int)) := by
  simp only [pureV, hx, hy, binV]
  show some (Value.int .i64 (shlI .i64 (v : Int) n)) = _
  unfold shlI
  have h : (2 : Int) ^ n = ((2 ^ n : Nat) : Int) := by simp
  rw [show min n IntKind.i64.bits = n from Nat.min_eq_left hn, h, ← Int.natCast_mul]
  rw [wrap_inK (by simp only [inK]; omega)]
theorem i64_orN {e : Operand → Value} {T T' : TypeId} {x y : Operand} {p q : Nat} (k a : Nat) (hx : e x = .int .i64 (p : Int)) (hy : e y = .int .i64 (q : Int)) (hp : p = 2 ^ k * a) (hq : q < 2 ^ k) (hs : p + q < 9223372036854775808) : pureV e (.binOp .or T x y T') = some (.int .i64 ((p + q : Nat) : Int)) := by
  simp only [pureV, hx, hy, binV]
  show some (Value.int .i64 (bitI .or .i64 (p : Int) (q : Int))) = _
  have h : (BitVec.ofInt 64 (p : Int) ||| BitVec.ofInt 64 (q : Int)).toNat = p + q := by
    rw [BitVec.toNat_or, ofInt_nat, ofInt_nat, Nat.mod_eq_of_lt (by omega), Nat.mod_eq_of_lt (by omega), hp, ← Nat.two_pow_add_eq_or_of_lt hq]
  show some (Value.int .i64 (IntKind.wrap .i64 (((BitVec.ofInt 64 (p : Int) ||| BitVec.ofInt 64 (q : Int)).toNat : Nat) : Int))) = _
  rw [h, wrap_inK (by simp only [inK]; omega)]
theorem i64_orE {e : Operand → Value} {T T' : TypeId} {x y : Operand} {p q : Nat} (k a r : Nat) (hx : e x = .int .i64 (p : Int)) (hy : e y = .int .i64 (q : Int)) (hp : p = 2 ^ k * a) (hq : q < 2 ^ k) (hs : p + q < 9223372036854775808) (hr : r = p + q) : pureV e (.binOp .or T x y T') = some (.int .i64 (r : Int)) := by
  subst hr; exact i64_orN k a hx hy hp hq hs
theorem numB_take4 {l : List UInt8} (h : 4 ≤ l.length) : numB (l.take 4) = (l[0]'(by omega)).toNat * 2 ^ 24 + (l[1]'(by omega)).toNat * 2 ^ 16 + (l[2]'(by omega)).toNat * 2 ^ 8 + (l[3]'(by omega)).toNat := by
  match l, h with
  | a :: b :: c :: d :: r, _ =>
    simp only [List.take_succ_cons, List.take_zero, List.getElem_cons_zero, List.getElem_cons_succ]
    simp [numB]
    omega
theorem drop4 {l : List UInt8} {p i : Nat} (h : p + i < l.length) : (l.drop p)[i]'(by rw [List.length_drop]; omega) = l[p + i] := by rw [List.getElem_drop]
theorem tailLen_ok {W w : World} {F : List Seg} (H : St W w F) {a : Option Addr} {n c p : Nat} {bs : List UInt8} (hr : RdIn W F a (bs.map B)) (hl : bs.length = n) (hn : n ≤ 140737488355328) (hp : p + 4 ≤ n) {pi : Int} (hpi : pi = (p : Int)) :
    Ok Tryz.prog 105 [.slice a n c, .int .i64 pi].toArray w (fun r w' => r = .int .i64 ((numB ((bs.drop p).take 4) : Nat) : Int) ∧ St W w' F) := by
  subst hl; subst hpi
  obtain ⟨bb, bo, hba, _⟩ := by_cell (hr.use H 0 rfl) (j := 0) (by omega)
  have e0 := (bs[p]'(by omega)).toNat_lt
  have e1 := (bs[p + 1]'(by omega)).toNat_lt
  have e2 := (bs[p + 2]'(by omega)).toNat_lt
  have e3 := (bs[p + 3]'(by omega)).toNat_lt
  refine enter (n := 34) (rs := #[.tmp 4]) Tryz.func105 rfl rfl rfl rfl ?_
  refine w_seq ?_
  refine w_region ?_
  refine l_pint rfl rfl ?_
  refine l_nil ?_
  refine w_seq ?_
  refine w_drawT [] [3, 10, 18, 26] [(0, 0), (1, 0), (2, 0), (3, 1), (4, 0), (5, 0), (6, 0), (7, 0), (8, 0), (9, 0), (10, 1), (11, 0), (12, 0), (13, 0), (14, 0), (15, 0), (16, 0), (17, 0), (18, 1), (19, 0), (20, 0), (21, 0), (22, 0), (23, 0), (24, 0), (25, 0), (26, 1), (27, 0), (28, 0), (29, 0)] mixed (by kernel_rfl) (fun _ _ _ h => fin_panic h) H (fun H => ?_)
  refine r_pslice rfl rfl rfl ?_
  refine r_pint rfl rfl rfl ?_
  refine r_w rfl rfl (fun w => q_indexSliceE p rfl el_50 rfl hba rfl (by omega) (by omega)) ?_
  refine r_v rfl rfl (fun w hS => q_load1 rfl c1_5 rfl (by_at (j := p) hba (hr.use hS 0 rfl) (by omega))) ?_
  refine r_w rfl rfl (fun w => q_convIntIn rfl (by kernel_rfl) in_3 rfl (by simp only [inK]; omega)) ?_
  refine r_w rfl rfl (fun w => q_pure (i64_shlN 24 rfl rfl (by decide) (by omega))) ?_
  refine r_pslice rfl rfl rfl ?_
  refine r_pint rfl rfl rfl ?_
  first | refine r_w rfl rfl (fun w => q_add rfl rfl rfl (by simp only [inK]; omega)) ?_ | refine r_pint rfl rfl rfl ?_
  refine r_w rfl rfl (fun w => q_indexSliceE (p + 1) rfl el_50 rfl hba rfl (by omega) (by omega)) ?_
  refine r_v rfl rfl (fun w hS => q_load1 rfl c1_5 rfl (by_at (j := (p + 1)) hba (hr.use hS 0 rfl) (by omega))) ?_
  refine r_w rfl rfl (fun w => q_convIntIn rfl (by kernel_rfl) in_3 rfl (by simp only [inK]; omega)) ?_
  refine r_w rfl rfl (fun w => q_pure (i64_shlN 16 rfl rfl (by decide) (by omega))) ?_
  refine r_w rfl rfl (fun w => q_pure (i64_orN 24 (bs[p]'(by omega)).toNat rfl rfl (Nat.mul_comm _ _) (by omega) (by omega))) ?_
  refine r_pslice rfl rfl rfl ?_
  refine r_pint rfl rfl rfl ?_
  first | refine r_w rfl rfl (fun w => q_add rfl rfl rfl (by simp only [inK]; omega)) ?_ | refine r_pint rfl rfl rfl ?_
  refine r_w rfl rfl (fun w => q_indexSliceE (p + 2) rfl el_50 rfl hba rfl (by omega) (by omega)) ?_
  refine r_v rfl rfl (fun w hS => q_load1 rfl c1_5 rfl (by_at (j := (p + 2)) hba (hr.use hS 0 rfl) (by omega))) ?_
  refine r_w rfl rfl (fun w => q_convIntIn rfl (by kernel_rfl) in_3 rfl (by simp only [inK]; omega)) ?_
  refine r_w rfl rfl (fun w => q_pure (i64_shlN 8 rfl rfl (by decide) (by omega))) ?_
  refine r_w rfl rfl (fun w => q_pure (i64_orN 16 ((bs[p]'(by omega)).toNat * 256 + (bs[p + 1]'(by omega)).toNat) rfl rfl (by omega) (by omega) (by omega))) ?_
  refine r_pslice rfl rfl rfl ?_
  refine r_pint rfl rfl rfl ?_
  first | refine r_w rfl rfl (fun w => q_add rfl rfl rfl (by simp only [inK]; omega)) ?_ | refine r_pint rfl rfl rfl ?_
  refine r_w rfl rfl (fun w => q_indexSliceE (p + 3) rfl el_50 rfl hba rfl (by omega) (by omega)) ?_
  refine r_v rfl rfl (fun w hS => q_load1 rfl c1_5 rfl (by_at (j := (p + 3)) hba (hr.use hS 0 rfl) (by omega))) ?_
  refine r_w rfl rfl (fun w => q_convIntIn rfl (by kernel_rfl) in_3 rfl (by simp only [inK]; omega)) ?_
  refine r_w rfl rfl (fun w => q_pure (i64_orN 8 (((bs[p]'(by omega)).toNat * 256 + (bs[p + 1]'(by omega)).toNat) * 256 + (bs[p + 2]'(by omega)).toNat) rfl rfl (by omega) (by omega) (by omega))) ?_
  refine r_pint rfl rfl rfl ?_
  refine r_nil ?_
  refine w_ret ?_
  refine fin1 (v := .int _ _) rfl ?_
  refine ⟨?_, H⟩
  rw [numB_take4 (by rw [List.length_drop]; omega), drop4 (by omega), drop4 (by omega), drop4 (by omega), drop4 (by omega)]
  rfl
set_option maxHeartbeats 1000000 in
theorem frame_r {W w : World} {F : List Seg} (H : St W w F) {a : Option Addr} {n c p : Nat} {bs : List UInt8} (hr : RdIn W F a (bs.map B)) (hl : bs.length = n) (hcp : bs.length ≤ c) (hn : n ≤ 140737488351232) (hp : p ≤ n) :
    Ok Tryz.prog 77 [.slice a n c, .int .i64 (p : Int)].toArray w (fun r w' => ∃ a' c', r = .tuple #[.slice a' (bodyR bs p).1.length c', .int .i64 (((if (bodyR bs p).2.2 = 0 then p + (bodyR bs p).2.1 else 0 : Nat)) : Int), .int .i64 (((bodyR bs p).2.2 : Nat) : Int)] ∧ St W w' (row 5 1 a' (bodyR bs p).1.length c' ((bodyR bs p).1.map B) :: F)) := by
  subst hl
  refine enter (n := 67) (rs := #[.tmp 4, .tmp 5, .tmp 6]) Tryz.func77 rfl rfl rfl rfl ?_
  refine w_seq ?_
  refine w_region ?_
  refine l_pslice rfl rfl ?_
  refine l_pint rfl rfl ?_
  refine l_pint rfl rfl ?_
  refine l_nil ?_
  refine w_seq ?_
  refine w_region ?_
  refine l_pslice rfl rfl ?_
  refine l_pint rfl rfl ?_
  refine l_v rfl (q_slice (l := p) (h := bs.length) (m := c) rfl el_50 rfl Bnd.none Bnd.none (Bnd.nat (by omega)) (by simp)) ?_
  refine l_pslice rfl rfl ?_
  refine l_nil ?_
  refine w_seq ?_
  refine w_seq ?_
  refine w_region ?_
  refine l_pslice rfl rfl ?_
  refine l_v rfl (q_lenSlice rfl el_50 rfl) ?_
  refine l_pbool rfl rfl ?_
  refine l_nil ?_
  refine w_cond rfl (fun c1 => ?_) (fun c1 => ?_)
  · try simp only [sH] at c1
    refine w_seq ?_
    refine w_region ?_
    refine l_pslice rfl rfl ?_
    refine l_pint rfl rfl ?_
    refine l_pint rfl rfl ?_
    refine l_nil ?_
    refine w_ret ?_
    refine fin3 rfl rfl rfl ?_
    have e : bodyR bs p = ([], 0, 222) := if_pos (by omega)
    rw [e]
    exact ⟨none, 0, rfl, St.newRow H⟩
  try simp only [sH] at c1
  have h1 : ¬ bs.length - p < 12 := by omega
  have hdl : (bs.drop p).length = bs.length - p := List.length_drop
  have hqr := rd_drop (p := p) (hr.use H 0 rfl) hcp (by omega)
  obtain ⟨qb, qo, hqa, _⟩ := by_cell hqr (j := 0) (by omega)
  have e0 := ((bs.drop p)[4]'(by omega)).toNat_lt
  have e1 := ((bs.drop p)[5]'(by omega)).toNat_lt
  have e2 := ((bs.drop p)[6]'(by omega)).toNat_lt
  have e3 := ((bs.drop p)[7]'(by omega)).toNat_lt
  have hnq : numB ((bs.drop (p + 4)).take 4) = ((bs.drop p)[4]'(by omega)).toNat * 2 ^ 24 + ((bs.drop p)[5]'(by omega)).toNat * 2 ^ 16 + ((bs.drop p)[6]'(by omega)).toNat * 2 ^ 8 + ((bs.drop p)[7]'(by omega)).toNat := by
    rw [numB_take4 (by rw [List.length_drop]; omega), drop4 (by omega), drop4 (by omega), drop4 (by omega), drop4 (by omega), drop4 (by omega), drop4 (by omega), drop4 (by omega), drop4 (by omega)]
  refine w_skip ?_
  refine w_seq ?_
  refine w_drawT [] [2, 7, 13, 19] [(0, 0), (1, 0), (2, 1), (3, 0), (4, 0), (5, 0), (6, 0), (7, 1), (8, 0), (9, 0), (10, 0), (11, 0), (12, 0), (13, 1), (14, 0), (15, 0), (16, 0), (17, 0), (18, 0), (19, 1), (20, 0), (21, 0), (22, 0)] mixed (by kernel_rfl) (fun _ _ _ h => fin_panic h) H (fun H => ?_)
  refine r_pslice rfl rfl rfl ?_
  refine r_w rfl rfl (fun w => q_indexSliceE 4 rfl el_50 rfl hqa rfl rfl (by omega)) ?_
  refine r_v rfl rfl (fun w hS => q_load1 rfl c1_5 rfl (by_at (j := 4) hqa (rd_drop (p := p) (hr.use hS 0 rfl) hcp (by omega)) (by omega))) ?_
  refine r_w rfl rfl (fun w => q_convIntIn rfl (by kernel_rfl) in_3 rfl (by simp only [inK]; omega)) ?_
  refine r_w rfl rfl (fun w => q_pure (i64_shlN 24 rfl rfl (by decide) (by omega))) ?_
  refine r_pslice rfl rfl rfl ?_
  refine r_w rfl rfl (fun w => q_indexSliceE 5 rfl el_50 rfl hqa rfl rfl (by omega)) ?_
  refine r_v rfl rfl (fun w hS => q_load1 rfl c1_5 rfl (by_at (j := 5) hqa (rd_drop (p := p) (hr.use hS 0 rfl) hcp (by omega)) (by omega))) ?_
  refine r_w rfl rfl (fun w => q_convIntIn rfl (by kernel_rfl) in_3 rfl (by simp only [inK]; omega)) ?_
  refine r_w rfl rfl (fun w => q_pure (i64_shlN 16 rfl rfl (by decide) (by omega))) ?_
  refine r_w rfl rfl (fun w => q_pure (i64_orN 24 ((bs.drop p)[4]'(by omega)).toNat rfl rfl (Nat.mul_comm _ _) (by omega) (by omega))) ?_
  refine r_pslice rfl rfl rfl ?_
  refine r_w rfl rfl (fun w => q_indexSliceE 6 rfl el_50 rfl hqa rfl rfl (by omega)) ?_
  refine r_v rfl rfl (fun w hS => q_load1 rfl c1_5 rfl (by_at (j := 6) hqa (rd_drop (p := p) (hr.use hS 0 rfl) hcp (by omega)) (by omega))) ?_
  refine r_w rfl rfl (fun w => q_convIntIn rfl (by kernel_rfl) in_3 rfl (by simp only [inK]; omega)) ?_
  refine r_w rfl rfl (fun w => q_pure (i64_shlN 8 rfl rfl (by decide) (by omega))) ?_
  refine r_w rfl rfl (fun w => q_pure (i64_orN 16 (((bs.drop p)[4]'(by omega)).toNat * 256 + ((bs.drop p)[5]'(by omega)).toNat) rfl rfl (by omega) (by omega) (by omega))) ?_
  refine r_pslice rfl rfl rfl ?_
  refine r_w rfl rfl (fun w => q_indexSliceE 7 rfl el_50 rfl hqa rfl rfl (by omega)) ?_
  refine r_v rfl rfl (fun w hS => q_load1 rfl c1_5 rfl (by_at (j := 7) hqa (rd_drop (p := p) (hr.use hS 0 rfl) hcp (by omega)) (by omega))) ?_
  refine r_w rfl rfl (fun w => q_convIntIn rfl (by kernel_rfl) in_3 rfl (by simp only [inK]; omega)) ?_
  refine r_w rfl rfl (fun w => q_pure (i64_orE 8 ((((bs.drop p)[4]'(by omega)).toNat * 256 + ((bs.drop p)[5]'(by omega)).toNat) * 256 + ((bs.drop p)[6]'(by omega)).toNat) (numB ((bs.drop (p + 4)).take 4)) rfl rfl (by omega) (by omega) (by omega) hnq)) ?_
  refine r_pint rfl rfl rfl ?_
  refine r_nil ?_
  refine w_seq ?_
  refine w_seq ?_
  refine w_region ?_
  refine l_pslice rfl rfl ?_
  refine l_v rfl (q_slice (l := 0) (h := 4) (m := c - p) rfl el_50 rfl Bnd.none (by have h := @Bnd.mk .i64 ((4 : Int)) (bs.length - p) (c - p) ⟨by omega, by omega⟩; exact h) Bnd.none (by simp)) ?_
  refine l_v rfl (q_bytesStr (bs := (bs.drop p).take 4) rfl by_50 st_9 rfl (by rw [subA_z]; exact rd_part (p := p) (n := 4) (hr.use H 0 rfl) hcp (by omega)) (by rw [List.length_take, List.length_drop]; omega)) ?_
  refine l_v rfl (q_pure (s_neq rfl rfl)) ?_
  refine l_pbool rfl rfl ?_
  refine l_split 43 rfl (fun h43 => ?_) (fun h43 => ?_)
  · try simp only [sH] at h43
    refine l_no rfl ?_
    refine l_no rfl ?_
    refine l_pickT (v := .bool _) rfl rfl rfl ?_
    refine l_nil ?_
    refine w_cond_t rfl ?_
    refine w_seq ?_
    refine w_region ?_
    refine l_pslice rfl rfl ?_
    refine l_pint rfl rfl ?_
    refine l_pint rfl rfl ?_
    refine l_nil ?_
    refine w_ret ?_
    refine fin3 rfl rfl rfl ?_
    have e : bodyR bs p = ([], 0, 220) := by unfold bodyR; rw [if_neg h1, if_pos (by simpa [magicL] using h43)]
    rw [e]
    exact ⟨none, 0, rfl, St.newRow H⟩
  try simp only [sH] at h43
  refine l_pint rfl rfl ?_
  refine l_pbool rfl rfl ?_
  refine l_pickF (v := .bool _) rfl rfl rfl ?_
  refine l_nil ?_
  refine w_cond rfl (fun c2 => ?_) (fun c2 => ?_)
  · try simp only [sH] at c2
    refine w_seq ?_
    refine w_region ?_
    refine l_pslice rfl rfl ?_
    refine l_pint rfl rfl ?_
    refine l_pint rfl rfl ?_
    refine l_nil ?_
    refine w_ret ?_
    refine fin3 rfl rfl rfl ?_
    have e : bodyR bs p = ([], 0, 220) := by unfold bodyR; rw [if_neg h1, if_neg (by simpa [magicL] using h43), if_pos (by omega)]
    rw [e]
    exact ⟨none, 0, rfl, St.newRow H⟩
  try simp only [sH] at c2
  refine w_skip ?_
  refine w_seq ?_
  refine w_seq ?_
  refine w_region ?_
  refine l_pslice rfl rfl ?_
  refine l_v rfl (q_lenSlice rfl el_50 rfl) ?_
  refine l_pint rfl rfl ?_
  first | refine l_v rfl (q_add rfl rfl rfl (by simp only [inK]; omega)) ?_ | refine l_pint rfl rfl ?_
  refine l_pbool rfl rfl ?_
  refine l_nil ?_
  refine w_cond rfl (fun c3 => ?_) (fun c3 => ?_)
  · try simp only [sH] at c3
    refine w_seq ?_
    refine w_region ?_
    refine l_pslice rfl rfl ?_
    refine l_pint rfl rfl ?_
    refine l_pint rfl rfl ?_
    refine l_nil ?_
    refine w_ret ?_
    refine fin3 rfl rfl rfl ?_
    have e : bodyR bs p = ([], 0, 222) := by unfold bodyR; rw [if_neg h1, if_neg (by simpa [magicL] using h43), if_neg (by omega), if_pos (by omega)]
    rw [e]
    exact ⟨none, 0, rfl, St.newRow H⟩
  try simp only [sH] at c3
  refine w_skip ?_
  refine w_seq ?_
  refine w_region ?_
  refine l_pslice rfl rfl ?_
  refine l_pint rfl rfl ?_
  first | refine l_v rfl (q_add rfl rfl rfl (by simp only [inK]; omega)) ?_ | refine l_pint rfl rfl ?_
  refine l_v rfl (q_slice (l := 0) (h := numB ((bs.drop (p + 4)).take 4) + 12) (m := c - p) rfl el_50 rfl Bnd.none (by have h := @Bnd.mk .i64 ((numB ((bs.drop (p + 4)).take 4) : Int) + 12) (bs.length - p) (c - p) ⟨by omega, by omega⟩; rwa [show ((numB ((bs.drop (p + 4)).take 4) : Int) + 12).toNat = numB ((bs.drop (p + 4)).take 4) + 12 by omega] at h) Bnd.none (by simp)) ?_
  refine b_call rfl cb_101 rfl (rOpen_ok (bs := ((bs.drop p).take (numB ((bs.drop (p + 4)).take 4) + 12))) H (by rw [subA_z]; exact rdin_part hr hcp (by omega)) (by rw [List.length_take, List.length_drop]; omega) (by rw [List.length_take, List.length_drop]; omega) (by omega)) (fun v w hv => ?_)
  obtain ⟨a61, c61, rfl, H⟩ := hv
  refine l_ptup rfl rfl ?_
  refine l_pslice rfl rfl ?_
  refine l_pint rfl rfl ?_
  refine l_pslice rfl rfl ?_
  refine l_pint rfl rfl ?_
  refine l_nil ?_
  refine w_seq ?_
  refine w_seq ?_
  refine w_region ?_
  refine l_pint rfl rfl ?_
  refine l_pbool rfl rfl ?_
  refine l_nil ?_
  refine w_cond rfl (fun c4 => ?_) (fun c4 => ?_)
  · try simp only [sH] at c4
    refine w_seq ?_
    refine w_region ?_
    refine l_pslice rfl rfl ?_
    refine l_pint rfl rfl ?_
    refine l_pint rfl rfl ?_
    refine l_nil ?_
    refine w_ret ?_
    refine fin3 rfl rfl rfl ?_
    have e : bodyR bs p = ([], 0, 220) := by unfold bodyR; rw [if_neg h1, if_neg (by simpa [magicL] using h43), if_neg (by omega), if_neg (by omega), if_pos (by omega)]
    rw [e]
    exact ⟨none, 0, rfl, St.newRow H.drop1⟩
  try simp only [sH] at c4
  refine w_skip ?_
  refine w_seq ?_
  refine w_region ?_
  refine l_pslice rfl rfl ?_
  refine l_pint rfl rfl ?_
  refine l_pint rfl rfl ?_
  first | refine l_v rfl (q_add rfl rfl rfl (by simp only [inK]; omega)) ?_ | refine l_pint rfl rfl ?_
  first | refine l_v rfl (q_add rfl rfl rfl (by simp only [inK]; omega)) ?_ | refine l_pint rfl rfl ?_
  refine l_pslice rfl rfl ?_
  refine l_pint rfl rfl ?_
  refine l_pint rfl rfl ?_
  refine l_nil ?_
  refine w_ret ?_
  refine fin3 rfl rfl rfl ?_
  have e : bodyR bs p = ((openR ((bs.drop p).take (numB ((bs.drop (p + 4)).take 4) + 12))).1, numB ((bs.drop (p + 4)).take 4) + 12, 0) := by unfold bodyR; rw [if_neg h1, if_neg (by simpa [magicL] using h43), if_neg (by omega), if_neg (by omega), if_neg (by omega)]
  rw [e]
  exact ⟨a61, c61, congrArg (fun z => Value.tuple #[_, .int .i64 z, _]) (by rw [if_pos rfl]; simp only []; omega), H⟩
end Go.Proofs.YtfpmnhmdphaceaaGreatDoor
