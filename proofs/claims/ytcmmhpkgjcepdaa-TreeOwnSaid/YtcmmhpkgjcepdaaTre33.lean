/- Tree's New, Size and Head do what their contracts say. -/
import Derived.Test.YtcmmhpkgjcepdaaTre32
namespace Go.Proofs.Ytcmmhpkgjcepdaa
open Go.EW
attribute [local irreducible] EW.W EW.L EW.fin block8 outB shaL
set_option linter.unusedVariables false
set_option linter.unusedSimpArgs false
attribute [local irreducible] swp headH leafH nodeH inclN sidesN bothN lenN splitN upN incdR extR incR conR unlikeN oneB metB

def treeZ : List Value := .slice none 0 0 :: List.replicate 2048 (.int .u8 0)
theorem ze_79 : zeroV Try.prog 79 = some (.agg treeZ.toArray) := by kernel_rfl
theorem sp_79 : strPl Try.prog 79 = some ([(0, 1), (1, 2048)], treeZ) := by kernel_rfl
theorem pathV_zero : ∀ n, pathV (List.replicate n (List.replicate 32 0)) = List.replicate (32 * n) (.int .u8 0)
  | 0 => rfl
  | n + 1 => by
    have ih := pathV_zero n
    unfold pathV at ih ⊢
    rw [List.replicate_succ, List.flatMap_cons, ih, List.map_replicate, Nat.mul_add, Nat.add_comm (32 * n), ← List.replicate_append_replicate]; rfl
def edge0 : List (List UInt8) := List.replicate 64 (List.replicate 32 0)
theorem treeZ_eq : treeZ = .slice none 0 0 :: pathV edge0 := by
  unfold treeZ edge0
  rw [pathV_zero]
/-- a tree: its entries, and its edge -/
def treeL (b : Nat) (a : Option Addr) (c : Nat) (es : List Ent) (E : List (List UInt8)) (F : List Seg) : List Seg := blk b (.slice a es.length c :: pathV E) 79 :: row 28 5 a es.length c (entsV es) :: F
theorem edge_len {E : List (List UInt8)} {es : List Ent} (h : EdgeOk E es) {i : Nat} (hi : i < 64) : (E.getD i []).length = 32 := by
  have h2 := h.1.2
  rw [List.getD_eq_getElem?_getD, List.getElem?_eq_getElem (by omega), Option.getD_some]
  exact h.1.1 _ (List.getElem_mem _)
theorem edge_cells {w : World} {b : Nat} {s : Value} {E : List (List UInt8)} {es : List Ent} {i : Nat} (h : EdgeOk E es) (hi : i < 64) (hc : Cells w b 0 (s :: pathV E)) : Cells w b (0 + 1 + i * 32) ((E.getD i []).map B) := by
  have h2 := h.1.2
  have h3 := hc.sub (1 + i * 32) 32
  rw [show 1 + i * 32 = i * 32 + 1 by omega, List.drop_succ_cons, path_at h.1.1 (by omega)] at h3
  rw [List.getD_eq_getElem?_getD, List.getElem?_eq_getElem (by omega), Option.getD_some, show 0 + 1 + i * 32 = 0 + (i * 32 + 1) by omega]
  exact h3
theorem edge_put {s : Value} {E : List (List UInt8)} {es : List Ent} {h : List UInt8} {i : Nat} (he : EdgeOk E es) (hh : h.length = 32) (hi : i < 64) : putL (s :: pathV E) (0 + 1 + i * 32) (h.map B) = s :: pathV (E.set i h) := by
  have h2 := he.1.2
  have hl := pathV_len E he.1.1
  have h3 := path_set he.1.1 hh (j := i) (by omega)
  rw [putL_eq _ _ _ (by rw [List.length_map, hh, hl]; omega)] at h3
  rw [putL_eq _ _ _ (by rw [List.length_map, hh, List.length_cons, hl]; omega), ← h3, show 0 + 1 + i * 32 = (0 + i * 32) + 1 by omega, List.take_succ_cons, show 0 + i * 32 + 1 + (h.map B).length = (0 + i * 32 + (h.map B).length) + 1 by omega, List.drop_succ_cons]
  rfl
theorem i64_shr {e : Operand → Value} {T T' : TypeId} {x y : Operand} {n i : Nat} (hx : e x = .int .i64 (n : Int)) (hy : e y = .int .i64 (i : Int)) (hi : i ≤ 64) : pureV e (.binOp .shr T x y T') = some (.int .i64 ((n / 2 ^ i : Nat) : Int)) := by
  simp only [pureV, hx, hy, binV]
  show some (Value.int .i64 (shrI .i64 _ i)) = _
  unfold shrI
  rw [show min i IntKind.i64.bits = i from Nat.min_eq_left hi]
  have h : (2 : Int) ^ i = ((2 ^ i : Nat) : Int) := by simp
  rw [h, Int.fdiv_eq_ediv_of_nonneg _ (Int.natCast_nonneg _), ← Int.natCast_ediv]
theorem and_one (n : Nat) (hn : n < 18446744073709551616) : bitI .and .i64 (n : Int) 1 = ((n % 2 : Nat) : Int) := by
  simp only [bitI, IntKind.bits]
  have h : (BitVec.ofInt 64 (n : Int) &&& BitVec.ofInt 64 1).toNat = n % 2 := by
    rw [BitVec.toNat_and, BitVec.toNat_ofInt, BitVec.toNat_ofInt]
    rw [show ((n : Int) % ((2 ^ 64 : Nat) : Int)).toNat = n by omega, show ((1 : Int) % ((2 ^ 64 : Nat) : Int)).toNat = 1 from rfl, Nat.and_one_is_mod]
  show IntKind.wrap .i64 (((BitVec.ofInt 64 (n : Int) &&& BitVec.ofInt 64 1).toNat : Nat) : Int) = _
  rw [h]
  have h2 : n % 2 < 2 := Nat.mod_lt _ (by decide)
  rcases (show n % 2 = 0 ∨ n % 2 = 1 by omega) with h3 | h3 <;> rw [h3] <;> rfl
theorem i64_bit {e : Operand → Value} {T T' : TypeId} {x y : Operand} {n : Nat} (hx : e x = .int .i64 (n : Int)) (hy : e y = .int .i64 1) (hn : n < 18446744073709551616) : pureV e (.binOp .and T x y T') = some (.int .i64 ((n % 2 : Nat) : Int)) := by
  simp only [pureV, hx, hy, binV]
  show some (Value.int .i64 (bitI .and .i64 _ _)) = _
  rw [and_one n hn]
theorem shr_lt {n i : Nat} (hn : n ≤ 140737488355328) : n / 2 ^ i < 18446744073709551616 := Nat.lt_of_le_of_lt (Nat.div_le_self _ _) (by omega)

theorem TNew_ok {W w : World} {F : List Seg} (H : St W w F) :
    Ok Try.prog 41 [].toArray w (fun r w' => ∃ b, r = .pointer (some ⟨b, 0, none⟩) ∧ St W w' (treeL b none 0 [] edge0 F)) := by
  refine enter (n := 3) (rs := #[.tmp 0]) Try.func41 rfl rfl rfl rfl ?_
  refine w_seq ?_
  refine w_region ?_
  refine l_pptr rfl rfl ?_
  refine l_nil ?_
  refine w_seq ?_
  refine w_region ?_
  refine l_v rfl (q_build (cs := treeZ) rfl sp_79 rfl) ?_
  refine b_box rfl rfl rfl H (fun b2 w H => ?_)
  refine l_pptr rfl rfl ?_
  refine l_nil ?_
  refine w_ret ?_
  refine fin1 (v := .pointer _) rfl ?_
  refine ⟨b2, rfl, ?_⟩
  rw [treeZ_eq] at H
  have H2 := St.newRow (T := 28) (sz := 5) H
  exact H2.swap01

theorem TSize_ok {W w : World} {F : List Seg} {b : Nat} {a : Option Addr} {c : Nat} {es : List Ent} {E : List (List UInt8)} (H : St W w (treeL b a c es E F)) (he : EdgeOk E es) (hn : es.length ≤ 140737488355328) :
    Ok Try.prog 44 [.pointer (some ⟨b, 0, none⟩)].toArray w (fun r w' => r = .int .i64 (es.length : Int) ∧ St W w' (treeL b a c es E F)) := by
  refine enter (n := 10) (rs := #[.tmp 2]) Try.func44 rfl rfl rfl rfl ?_
  refine w_seq ?_
  refine w_region ?_
  refine l_pint rfl rfl ?_
  refine l_nil ?_
  refine w_seq ?_
  refine w_seq ?_
  refine w_region ?_
  refine l_pptr rfl rfl ?_
  refine l_v rfl (q_eqlNilF rfl pt_68 rfl rfl) ?_
  refine l_nil ?_
  refine w_cond_f rfl ?_
  refine w_skip ?_
  refine w_seq ?_
  refine w_region ?_
  refine l_pptr rfl rfl ?_
  refine l_pptr rfl rfl ?_
  refine l_v rfl (q_fieldAddr rfl fo79_0 rfl) ?_
  refine l_v rfl (q_load1 rfl c1_22 rfl (H.cell 0 rfl rfl)) ?_
  refine l_v rfl (q_lenSlice rfl el_22 rfl) ?_
  refine l_pint rfl rfl ?_
  refine l_nil ?_
  refine w_ret ?_
  refine fin1 (v := .int _ _) rfl ?_
  exact ⟨rfl, H⟩

set_option maxRecDepth 8000 in
theorem THead_ok {W w : World} {F : List Seg} {b : Nat} {a : Option Addr} {c : Nat} {es : List Ent} {E : List (List UInt8)} (H : St W w (treeL b a c es E F)) (he : EdgeOk E es) (hn : es.length ≤ 140737488355328) :
    Ok Try.prog 43 [.pointer (some ⟨b, 0, none⟩)].toArray w (fun r w' => r = .agg ((headH es).map B).toArray ∧ St W w' (treeL b a c es E F)) := by
  refine enter (n := 39) (rs := #[.cell 2 24]) Try.func43 rfl rfl rfl rfl ?_
  refine w_seq ?_
  refine w_region ?_
  refine b_alloc rfl ze_24 rfl H (fun b2 w H => ?_)
  refine l_nil ?_
  refine w_seq ?_
  refine w_seq ?_
  refine w_region ?_
  refine l_pptr rfl rfl ?_
  refine b_call rfl cb_44 rfl (Ok_perm (pickP [1, 2, 0] (pre := [_, _, _]) rfl rfl) (fun H => TSize_ok (F := blk b2 _ 24 :: F) H he hn) H) (fun v w hv => ?_)
  obtain ⟨rfl, H⟩ := hv
  refine l_pbool rfl rfl ?_
  refine l_nil ?_
  refine w_cond rfl (fun c1 => ?_) (fun c1 => ?_)
  · try simp only [decide_eq_true_eq, decide_eq_false_iff_not, Bool.not_eq_true', Bool.not_eq_false', beq_iff_eq, beq_eq_false_iff_ne, bne_iff_ne, bne_eq_false_iff_eq, ne_eq, Int.not_lt, Int.not_le] at c1
    refine w_seq ?_
    refine w_region ?_
    refine b_call rfl cb_50 rfl (SumB_to H (bs := []) RdIn.nil rfl (Nat.le_refl _) (by decide)) (fun v w hv => ?_)
    obtain ⟨rfl, H⟩ := hv
    have hvl : ((shaL []).map B).length = 32 := by rw [List.length_map, shaL_len]
    refine b_store (vs := (shaL []).map B) rfl sz_24 rfl rfl rfl (by rw [hvl]; rfl) (all1 _) H 0 rfl (by rw [hvl]; first | rfl | (simp [hh]; done)) (putL_all (by rw [hvl]; first | rfl | (simp [hh]; done))) (fun w H => ?_)
    refine l_nil ?_
    refine w_ret ?_
    refine finc (vs := (shaL []).map B) rfl ag_24 (by rw [List.length_map, shaL_len]; rfl) (H.cells 0 rfl) ?_
    have e0 : es = [] := List.eq_nil_of_length_eq_zero (by omega)
    subst e0
    exact ⟨by rw [headH_nil], H.erase 0⟩
  · try simp only [decide_eq_true_eq, decide_eq_false_iff_not, Bool.not_eq_true', Bool.not_eq_false', beq_iff_eq, beq_eq_false_iff_ne, bne_iff_ne, bne_eq_false_iff_eq, ne_eq, Int.not_lt, Int.not_le] at c1
    refine w_skip ?_
    refine w_seq ?_
    refine w_region ?_
    refine b_alloc rfl ze_24 rfl H (fun b3 w H => ?_)
    refine l_nil ?_
    refine w_seq ?_
    refine w_region ?_
    refine l_pbool rfl rfl ?_
    refine l_nil ?_
    refine w_seq ?_
    refine w_seq ?_
    refine w_region ?_
    refine l_pint rfl rfl ?_
    refine l_nil ?_
    refine w_block ?_
    refine w_loopG (G := Nat × Bool × List UInt8) [4, 5, 10, 11, 12, 13, 14, 15, 16, 17, 18, 19, 20, 21, 22, 23, 24, 25, 26, 27, 28, 29, 30, 31, 32, 33, 34, 35, 36, 37] (fun ⟨i, begun, h⟩ => [(10, .int .i64 ((i : Nat) : Int)), (4, .bool begun)]) (fun m ⟨i, begun, h⟩ w => (m + i = 64 ∧ h.length = 32 ∧ UpTo es i begun h) ∧ St W w (blk b3 (h.map B) 24 :: blk b2 z32 24 :: treeL b a c es E F)) (fun _ => rfl) ?_ ?_
    · exact ⟨64, (0, false, List.replicate 32 0), ⟨rfl, rfl, trivial⟩, ⟨rfl, by simp, up_zero⟩, H⟩
    · rintro m ⟨i, begun, h⟩ ρ1 w ⟨⟨hmi, hh, hu⟩, H⟩
      refine w_seq ?_
      refine w_region ?_
      refine l_pbool rfl rfl ?_
      refine l_nil ?_
      refine w_seq ?_
      refine w_cond rfl (fun c2 => ?_) (fun c2 => ?_)
      · try simp only [decide_eq_true_eq, decide_eq_false_iff_not, Bool.not_eq_true', Bool.not_eq_false', beq_iff_eq, beq_eq_false_iff_ne, bne_iff_ne, bne_eq_false_iff_eq, ne_eq, Int.not_lt, Int.not_le] at c2
        have hi : i < 64 := by omega
        refine w_skip ?_
        refine w_seq ?_
        refine w_block ?_
        refine w_seq ?_
        refine w_region ?_
        refine l_pint rfl rfl ?_
        refine l_pint rfl rfl ?_
        refine l_nil ?_
        refine w_seq ?_
        refine w_seq ?_
        refine w_region ?_
        refine l_pptr rfl rfl ?_
        refine l_pptr rfl rfl ?_
        refine l_v rfl (q_fieldAddr rfl fo79_0 rfl) ?_
        refine l_v rfl (q_load1 rfl c1_22 rfl (H.cell 2 rfl rfl)) ?_
        refine l_v rfl (q_lenSlice rfl el_22 rfl) ?_
        refine l_pint rfl rfl ?_
        refine l_v rfl (q_pure (i64_shr (n := es.length) (i := i) rfl rfl (by omega))) ?_
        refine l_v rfl (q_pure (i64_bit (n := es.length / 2 ^ i) rfl rfl (shr_lt hn))) ?_
        refine l_pbool rfl rfl ?_
        refine l_nil ?_
        refine w_cond rfl (fun c3 => ?_) (fun c3 => ?_)
        · try simp only [decide_eq_true_eq, decide_eq_false_iff_not, Bool.not_eq_true', Bool.not_eq_false', beq_iff_eq, beq_eq_false_iff_ne, bne_iff_ne, bne_eq_false_iff_eq, ne_eq, Int.not_lt, Int.not_le] at c3
          refine w_exit ?_
          refine w_region ?_
          first | refine l_v rfl (q_add rfl rfl rfl (by simp only [inK]; omega)) ?_ | refine l_pint rfl rfl ?_
          refine l_pint rfl rfl ?_
          refine l_nil ?_
          refine ⟨by repeat' first | exact Agr.mix _ _ _ | exact Agr.refl _ _ | refine Agr.inner rfl ?_ | refine Agr.upd rfl ?_ | refine Agr.updL' rfl ?_, ?_⟩
          exact ⟨m - 1, (i + 1, begun, h), by omega, ⟨by exact congrArg (Value.int IntKind.i64) (Int.natCast_succ i).symm, rfl, trivial⟩, ⟨by omega, hh, up_skip hu (by omega)⟩, H⟩
        · try simp only [decide_eq_true_eq, decide_eq_false_iff_not, Bool.not_eq_true', Bool.not_eq_false', beq_iff_eq, beq_eq_false_iff_ne, bne_iff_ne, bne_eq_false_iff_eq, ne_eq, Int.not_lt, Int.not_le] at c3
          refine w_skip ?_
          refine w_seq ?_
          refine w_region ?_
          refine l_pbool rfl rfl ?_
          refine l_nil ?_
          refine w_cond rfl (fun c4 => ?_) (fun c4 => ?_)
          · try simp only [decide_eq_true_eq, decide_eq_false_iff_not, Bool.not_eq_true', Bool.not_eq_false', beq_iff_eq, beq_eq_false_iff_ne, bne_iff_ne, bne_eq_false_iff_eq, ne_eq, Int.not_lt, Int.not_le] at c4
            refine w_drawT [7, 8] [5, 6] [(0, 0), (1, 0), (2, 0), (3, 0), (4, 0), (5, 1), (6, 1), (7, 2), (8, 2)] mixed (by kernel_rfl) (fun _ _ _ h => fin_panic h) H (fun H => ?_)
            refine r_pptr rfl rfl rfl ?_
            refine r_pint rfl rfl rfl ?_
            refine r_pptr rfl rfl rfl ?_
            refine r_w rfl rfl (fun w => q_fieldAddr rfl fo79_1 rfl) ?_
            refine r_w rfl rfl (fun w => q_indexArrE i rfl ar_77 rfl rfl rfl (by omega)) ?_
            refine r_v rfl rfl (fun w hS => q_loadN (vs := (E.getD i []).map B) rfl ag_24 rfl (by rw [List.length_map, edge_len he hi]) (edge_cells he hi (hS.cells 2 rfl))) ?_
            refine r_v rfl rfl (fun w hS => q_loadN (vs := h.map B) rfl ag_24 rfl (by simp [hh]) (hS.cells 0 rfl)) ?_
            refine r_do rfl ?_
            refine b_call rfl cb_17 rfl (Node_ok H (edge_len he hi) hh) (fun v w hv => ?_)
            obtain ⟨rfl, H⟩ := hv
            refine l_nil ⟨(fun h => nomatch h), ?_⟩
            refine r_do rfl ?_
            have hvl : ((nodeH (E.getD i []) h).map B).length = 32 := by rw [List.length_map, nodeH_len]
            refine b_store (vs := (nodeH (E.getD i []) h).map B) rfl sz_24 rfl rfl rfl (by rw [hvl]; rfl) (all1 _) H 0 rfl (by rw [hvl]; first | rfl | (simp [hh]; done)) (putL_all (by rw [hvl]; first | rfl | (simp [hh]; done))) (fun w H => ?_)
            refine l_nil ⟨(fun h => nomatch h), ?_⟩
            refine r_nil ?_
            refine w_region ?_
            first | refine l_v rfl (q_add rfl rfl rfl (by simp only [inK]; omega)) ?_ | refine l_pint rfl rfl ?_
            refine l_pint rfl rfl ?_
            refine l_nil ?_
            refine ⟨by repeat' first | exact Agr.mix _ _ _ | exact Agr.refl _ _ | refine Agr.inner rfl ?_ | refine Agr.upd rfl ?_ | refine Agr.updL' rfl ?_, ?_⟩
            have c4' : begun = true := c4
            subst c4'
            exact ⟨m - 1, (i + 1, true, nodeH (E.getD i []) h), by omega, ⟨by exact congrArg (Value.int IntKind.i64) (Int.natCast_succ i).symm, rfl, trivial⟩, ⟨by omega, nodeH_len _ _, up_node he hi hu (by omega)⟩, H⟩
          · try simp only [decide_eq_true_eq, decide_eq_false_iff_not, Bool.not_eq_true', Bool.not_eq_false', beq_iff_eq, beq_eq_false_iff_ne, bne_iff_ne, bne_eq_false_iff_eq, ne_eq, Int.not_lt, Int.not_le] at c4
            refine w_region ?_
            refine l_pptr rfl rfl ?_
            refine l_pint rfl rfl ?_
            refine l_pptr rfl rfl ?_
            refine l_v rfl (q_fieldAddr rfl fo79_1 rfl) ?_
            refine l_v rfl (q_indexArrE i rfl ar_77 rfl rfl rfl (by omega)) ?_
            refine l_v rfl (q_loadN (vs := (E.getD i []).map B) rfl ag_24 rfl (by rw [List.length_map, edge_len he hi]) (edge_cells he hi (H.cells 2 rfl))) ?_
            have hvl : (((E.getD i [])).map B).length = 32 := by rw [List.length_map, edge_len he hi]
            refine b_store (vs := ((E.getD i [])).map B) rfl sz_24 rfl rfl rfl (by rw [hvl]; rfl) (all1 _) H 0 rfl (by rw [hvl]; first | rfl | (simp [hh]; done)) (putL_all (by rw [hvl]; first | rfl | (simp [hh]; done))) (fun w H => ?_)
            refine l_pbool rfl rfl ?_
            refine l_nil ?_
            refine w_region ?_
            first | refine l_v rfl (q_add rfl rfl rfl (by simp only [inK]; omega)) ?_ | refine l_pint rfl rfl ?_
            refine l_pint rfl rfl ?_
            refine l_nil ?_
            refine ⟨by repeat' first | exact Agr.mix _ _ _ | exact Agr.refl _ _ | refine Agr.inner rfl ?_ | refine Agr.upd rfl ?_ | refine Agr.updL' rfl ?_, ?_⟩
            exact ⟨m - 1, (i + 1, true, (E.getD i [])), by omega, ⟨by exact congrArg (Value.int IntKind.i64) (Int.natCast_succ i).symm, rfl, trivial⟩, ⟨by omega, edge_len he hi, by have c4' : begun = false := c4; subst c4'; exact up_first he hi hu (by omega)⟩, H⟩
      · try simp only [decide_eq_true_eq, decide_eq_false_iff_not, Bool.not_eq_true', Bool.not_eq_false', beq_iff_eq, beq_eq_false_iff_ne, bne_iff_ne, bne_eq_false_iff_eq, ne_eq, Int.not_lt, Int.not_le] at c2
        refine w_exit ?_
        refine w_seq ?_
        refine w_region ?_
        refine l_v rfl (q_loadN (vs := h.map B) rfl ag_24 rfl (by simp [hh]) (H.cells 0 rfl)) ?_
        have hvl : ((h).map B).length = 32 := by rw [List.length_map, hh]
        refine b_store (vs := (h).map B) rfl sz_24 rfl rfl rfl (by rw [hvl]; rfl) (all1 _) H 1 rfl (by rw [hvl]; first | rfl | (simp [hh]; done)) (putL_all (by rw [hvl]; first | rfl | (simp [hh]; done))) (fun w H => ?_)
        refine l_nil ?_
        refine w_ret ?_
        refine finc (vs := h.map B) rfl ag_24 (by rw [List.length_map, hh]; rfl) (H.cells 1 rfl) ?_
        have e64 : i = 64 := by omega
        subst e64
        have heq := up_end hu (by omega) (by omega)
        exact ⟨by rw [heq], (H.erase 0).erase 0⟩

end Go.Proofs.Ytcmmhpkgjcepdaa
