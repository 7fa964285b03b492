/- The hasher's Sum does what its contract says. -/
import Derived.Test.YtcmmbjplekgihaaDig6
namespace Go.Proofs.Ytcmmbjplekgihaa
open Go.EW
attribute [local irreducible] EW.W EW.L EW.fin block8 outB
set_option linter.unusedVariables false
set_option linter.unusedSimpArgs false

def z32 : List Value := (List.replicate 32 (0 : UInt8)).map B
/-- a row of bytes that grew by one -/
theorem row_snoc {W w : World} {S : List Seg} {a : Option Addr} {n cap : Nat} {l : List UInt8} {u : UInt8} (hn : n = l.length + 1) (H : St W w (row 5 1 a n cap (l.map B ++ [B u]) :: S)) : St W w (row 5 1 a (l ++ [u]).length cap ((l ++ [u]).map B) :: S) := by
  subst hn
  simpa using H
theorem out_put {s : S8} {i j : Nat} {u : UInt8} (hj : j < 4) (hu : u = (s.list.getD i 0 >>> UInt32.ofNat (24 - 8 * j)).toUInt8) : putL ((outB s (4 * i + j)).map B) (0 + (4 * i + j) * 1) [B u] = (outB s (4 * i + (j + 1))).map B := by
  subst hu
  rw [Nat.mul_one, Nat.zero_add, show 4 * i + (j + 1) = (4 * i + j) + 1 by omega, outB, List.map_set]
  have e1 : (4 * i + j) / 4 = i := by omega
  have e2 : (4 * i + j) % 4 = j := by omega
  unfold byteAt
  rw [e1, e2]
  rfl
theorem all1 (l : List UInt8) : (l.map B).all Value.oneCell' = true := List.all_eq_true.2 (oneB l)
theorem rem64 (n : Nat) : ((n : Int)).tmod 64 = ((n % 64 : Nat) : Int) := by
  rw [Int.tmod_eq_emod_of_nonneg (by omega)]; omega

set_option maxRecDepth 8000 in
set_option maxHeartbeats 1000000 in
theorem Sum_ok {W w : World} {F : List Seg} {b : Nat} {h : HS} {all : List UInt8} (H : St W w (hashL b h F)) (hk : HOk h all) (hn : all.length ≤ 576460752303423488) :
    Ok Try.prog 17 [.pointer (some ⟨b, 0, none⟩)].toArray w (fun v w' => v = .agg ((shaL all).map B).toArray ∧ St W w' (hashL b h F)) := by
  have hrl := hk.rest
  have hrl2 : h.rest.length = all.length % 64 := by
    have h2 : h.rest = (loopW begin8 all).2 := congrArg Prod.snd hk.s
    rw [h2]; unfold loopW; simp; omega
  refine enter (n := 86) (rs := #[.cell 2 32]) Try.func17 rfl rfl rfl rfl ?_
  refine w_seq ?_
  refine w_region ?_
  refine b_alloc rfl ze_32 rfl H (fun b2 w H => ?_)
  refine l_nil ?_
  refine w_seq ?_
  refine w_seq ?_
  refine w_region ?_
  refine l_pptr rfl rfl ?_
  refine b_call rfl cb_35 rfl (good_ok (i := 1) (t := true) H rfl rfl) (fun v w hv => ?_)
  obtain ⟨rfl, rfl⟩ := hv
  refine l_pbool rfl rfl ?_
  refine l_nil ?_
  refine w_cond rfl (fun c1 => ?_) (fun c1 => ?_)
  · try simp only [decide_eq_true_eq, decide_eq_false_iff_not, Bool.not_eq_true', Bool.not_eq_false', beq_iff_eq, beq_eq_false_iff_ne, bne_iff_ne, bne_eq_false_iff_eq, ne_eq, Int.not_lt, Int.not_le] at c1
    refine w_seq ?_
    refine w_region ?_
    refine l_v rfl (q_buildArr rfl ar_32 ze_32 (by kernel_rfl : fillL _ _ _ = some z32)) ?_
    first | refine b_store rfl sz_32 rfl rfl rfl rfl rfl H 0 rfl rfl rfl (fun w H => ?_) | refine b_store rfl sz_32 rfl rfl rfl rfl rfl H 1 rfl rfl rfl (fun w H => ?_) | refine b_store rfl sz_32 rfl rfl rfl rfl rfl H 2 rfl rfl rfl (fun w H => ?_) | refine b_store rfl sz_32 rfl rfl rfl rfl rfl H 3 rfl rfl rfl (fun w H => ?_) | refine b_store rfl sz_32 rfl rfl rfl rfl rfl H 4 rfl rfl rfl (fun w H => ?_)
    refine l_nil ?_
    refine w_ret ?_
    refine finc rfl ag_32 rfl (by first | exact H.cells 0 rfl | exact H.cells 1 rfl | exact H.cells 2 rfl | exact H.cells 3 rfl | exact H.cells 4 rfl) ?_
    exact absurd c1 (by decide)
  · try simp only [decide_eq_true_eq, decide_eq_false_iff_not, Bool.not_eq_true', Bool.not_eq_false', beq_iff_eq, beq_eq_false_iff_ne, bne_iff_ne, bne_eq_false_iff_eq, ne_eq, Int.not_lt, Int.not_le] at c1
    refine w_skip ?_
    refine w_seq ?_
    refine w_region ?_
    refine l_pptr rfl rfl ?_
    refine l_pptr rfl rfl ?_
    refine l_v rfl (q_fieldAddr rfl fo49_1 rfl) ?_
    refine l_v rfl (q_load1 rfl c1_22 rfl (by first | exact H.cell 0 rfl rfl | exact H.cell 1 rfl rfl | exact H.cell 2 rfl rfl | exact H.cell 3 rfl rfl | exact H.cell 4 rfl rfl)) ?_
    refine b_append rfl el_22 ze_5 rfl rfl rfl (St.newRow H) 0 rfl (ys := h.rest.map B) ((H.rowInv (i := 2) rfl).2.2.2.2) (by simp) (oneB _) ⟨by have := hk.rest; omega, by have := hk.rest; simp only [maxLen]; omega⟩ (fun a20 c20 w H => ?_)
    refine l_pslice rfl rfl ?_
    refine l_nil ?_
    refine w_seq ?_
    refine w_region ?_
    refine l_pslice rfl rfl ?_
    refine b_buildSlice (cs := [_]) rfl el_22 ze_5 rfl rfl rfl H (fun b22 w H => ?_)
    refine b_append rfl el_22 ze_5 rfl rfl rfl H 1 rfl (Rd.mk (H.cells0 0 rfl)) rfl (fun u hu => by obtain rfl := List.mem_singleton.1 hu; rfl) ⟨by omega, by simp only [maxLen]; omega⟩ (fun a23 c23 w H => ?_)
    refine l_pslice rfl rfl ?_
    refine l_nil ?_
    refine w_seq ?_
    refine w_block ?_
    refine w_loopG (G := Nat × Option Addr × Nat × List UInt8) [3, 24, 25, 26, 27, 28, 29, 30] (fun ⟨k, a3, c3, l⟩ => [(3, .slice a3 l.length c3)]) (fun m ⟨k, a3, c3, l⟩ w => m + k = (119 - all.length % 64) % 64 ∧ l.length = h.rest.length + 1 + k ∧ l = h.rest ++ 128 :: List.replicate k 0 ∧ St W w (row 5 1 a3 l.length c3 (l.map B) :: blk b2 z32 32 :: hashL b h F)) (fun _ => rfl) ?_ ?_
    · refine ⟨(119 - all.length % 64) % 64, (0, a23, c23, h.rest ++ [128]), ⟨by exact congrArg (fun x => Value.slice a23 x c23) (by simp), trivial⟩, rfl, by simp, rfl, ?_⟩
      have H2 : St W w (row 5 1 a23 (0 + h.rest.length + 1) c23 (([] ++ h.rest.map B) ++ [B 128]) :: blk b2 z32 32 :: hashL b h F) := H.drop1
      rw [List.nil_append, Nat.zero_add] at H2
      exact row_snoc rfl H2
    · rintro m ⟨k, a3, c3, l⟩ ρ1 w ⟨hmk, hll, hlk, H⟩
      refine w_seq ?_
      refine w_seq ?_
      refine w_region ?_
      refine l_pslice rfl rfl ?_
      refine l_v rfl (q_lenSlice rfl el_22 rfl) ?_
      refine l_v rfl (q_rem rfl rfl rfl (by omega)) ?_
      refine l_pbool rfl rfl ?_
      refine l_nil ?_
      refine w_cond rfl (fun c2 => ?_) (fun c2 => ?_)
      · try simp only [decide_eq_true_eq, decide_eq_false_iff_not, Bool.not_eq_true', Bool.not_eq_false', beq_iff_eq, beq_eq_false_iff_ne, bne_iff_ne, bne_eq_false_iff_eq, ne_eq, Int.not_lt, Int.not_le] at c2
        rw [rem64] at c2
        refine w_skip ?_
        refine w_block ?_
        refine w_region ?_
        refine l_pslice rfl rfl ?_
        refine b_buildSlice (cs := [_]) rfl el_22 ze_5 rfl rfl rfl H (fun b29 w H => ?_)
        refine b_append rfl el_22 ze_5 rfl rfl rfl H 1 rfl (Rd.mk (H.cells0 0 rfl)) rfl (fun u hu => by obtain rfl := List.mem_singleton.1 hu; rfl) ⟨by omega, by simp only [maxLen]; omega⟩ (fun a30 c30 w H => ?_)
        refine l_pslice rfl rfl ?_
        refine l_nil ?_
        refine ⟨by repeat' first | exact Agr.mix _ _ _ | exact Agr.refl _ _ | refine Agr.inner rfl ?_ | refine Agr.upd rfl ?_ | refine Agr.updL' rfl ?_, ?_⟩
        refine ⟨m - 1, (k + 1, a30, c30, l ++ [0]), by omega, ⟨by exact congrArg (fun x => Value.slice a30 x c30) (by simp), trivial⟩, by omega, by simp; omega, by rw [hlk, List.replicate_succ']; simp, ?_⟩
        exact row_snoc rfl (show St W w (row 5 1 a30 (l.length + 1) c30 (l.map B ++ [B 0]) :: blk b2 z32 32 :: hashL b h F) from H.drop1)
      · try simp only [decide_eq_true_eq, decide_eq_false_iff_not, Bool.not_eq_true', Bool.not_eq_false', beq_iff_eq, beq_eq_false_iff_ne, bne_iff_ne, bne_eq_false_iff_eq, ne_eq, Int.not_lt, Int.not_le] at c2
        rw [rem64] at c2
        obtain rfl : k = (119 - all.length % 64) % 64 := by omega
        refine w_exit ?_
        refine w_seq ?_
        refine w_region ?_
        refine l_pptr rfl rfl ?_
        refine l_pptr rfl rfl ?_
        refine l_v rfl (q_fieldAddr rfl fo49_2 rfl) ?_
        refine l_v rfl (q_load1 rfl c1_3 rfl (by first | exact H.cell 0 rfl rfl | exact H.cell 1 rfl rfl | exact H.cell 2 rfl rfl | exact H.cell 3 rfl rfl | exact H.cell 4 rfl rfl)) ?_
        refine l_v rfl (q_convIntIn rfl (by kernel_rfl) in_81 rfl (by simp only [inK, hk.n]; omega)) ?_
        first | refine l_v rfl (q_mul rfl rfl rfl (by simp only [inK, hk.n]; omega)) ?_ | refine l_pint rfl rfl ?_
        refine l_pint rfl rfl ?_
        refine l_nil ?_
        refine w_seq ?_
        refine w_seq ?_
        refine w_region ?_
        refine l_pint rfl rfl ?_
        refine l_nil ?_
        refine w_block ?_
        refine w_loopG (G := Nat × Option Addr × Nat × List UInt8) [3, 5, 37, 38, 39, 40, 41, 42, 43, 44, 45, 46, 47, 48, 49] (fun ⟨i, ap, cp, lp⟩ => [(37, .int .i64 ((i : Nat) : Int)), (3, .slice ap lp.length cp)]) (fun m ⟨i, ap, cp, lp⟩ w => m + i = 8 ∧ lp = h.rest ++ 128 :: (List.replicate ((119 - all.length % 64) % 64) 0 ++ lens all.length i) ∧ St W w (row 5 1 ap lp.length cp (lp.map B) :: blk b2 z32 32 :: hashL b h F)) (fun _ => rfl) ?_ ?_
        · exact ⟨8, (0, a3, c3, l), ⟨rfl, rfl, trivial⟩, rfl, by rw [hlk, lens, List.append_nil], H⟩
        · rintro m ⟨i, ap, cp, lp⟩ ρ1 w ⟨hmi, hli, H⟩
          have hll : lp.length = h.rest.length + 1 + ((119 - all.length % 64) % 64 + i) := by rw [hli]; simp [lens_len]; omega
          refine w_seq ?_
          refine w_region ?_
          refine l_pbool rfl rfl ?_
          refine l_nil ?_
          refine w_seq ?_
          refine w_cond rfl (fun c3 => ?_) (fun c3 => ?_)
          · try simp only [decide_eq_true_eq, decide_eq_false_iff_not, Bool.not_eq_true', Bool.not_eq_false', beq_iff_eq, beq_eq_false_iff_ne, bne_iff_ne, bne_eq_false_iff_eq, ne_eq, Int.not_lt, Int.not_le] at c3
            refine w_skip ?_
            refine w_seq ?_
            refine w_block ?_
            refine w_seq ?_
            refine w_region ?_
            refine l_pint rfl rfl ?_
            refine l_pint rfl rfl ?_
            refine l_nil ?_
            refine w_region ?_
            refine l_pslice rfl rfl ?_
            refine l_pint rfl rfl ?_
            refine l_pint rfl rfl ?_
            first | refine l_v rfl (q_mul rfl rfl rfl (by simp only [inK]; omega)) ?_ | refine l_pint rfl rfl ?_
            first | refine l_v rfl (q_sub rfl rfl rfl (by simp only [inK]; omega)) ?_ | refine l_pint rfl rfl ?_
            refine l_v rfl (q_pure (u64_shr (8 * all.length) (56 - 8 * i) rfl (by rw [hk.n]; omega) rfl (by omega) (by omega))) ?_
            refine l_v rfl (q_lowN rfl (by kernel_rfl) in_5 rfl) ?_
            refine b_buildSlice (cs := [_]) rfl el_22 ze_5 rfl rfl rfl H (fun b47 w H => ?_)
            refine b_append rfl el_22 ze_5 rfl rfl rfl H 1 rfl (Rd.mk (H.cells0 0 rfl)) rfl (fun u hu => by obtain rfl := List.mem_singleton.1 hu; rfl) ⟨by omega, by simp only [maxLen]; omega⟩ (fun a48 c48 w H => ?_)
            refine l_pslice rfl rfl ?_
            refine l_nil ?_
            refine w_region ?_
            first | refine l_v rfl (q_add rfl rfl rfl (by simp only [inK]; omega)) ?_ | refine l_pint rfl rfl ?_
            refine l_pint rfl rfl ?_
            refine l_nil ?_
            refine ⟨by repeat' first | exact Agr.mix _ _ _ | exact Agr.refl _ _ | refine Agr.inner rfl ?_ | refine Agr.upd rfl ?_ | refine Agr.updL' rfl ?_, ?_⟩
            refine ⟨m - 1, (i + 1, a48, c48, lp ++ [lenB all.length i]), by omega, ⟨by exact congrArg (Value.int IntKind.i64) (Int.natCast_succ i).symm, by exact congrArg (fun x => Value.slice a48 x c48) (by simp), trivial⟩, by omega, by rw [hli, lens]; simp, ?_⟩
            exact row_snoc rfl (show St W w (row 5 1 a48 (lp.length + 1) c48 (lp.map B ++ [B (lenB all.length i)]) :: blk b2 z32 32 :: hashL b h F) from H.drop1)
          · try simp only [decide_eq_true_eq, decide_eq_false_iff_not, Bool.not_eq_true', Bool.not_eq_false', beq_iff_eq, beq_eq_false_iff_ne, bne_iff_ne, bne_eq_false_iff_eq, ne_eq, Int.not_lt, Int.not_le] at c3
            obtain rfl : i = 8 := by omega
            have hcp := (H.rowInv (i := 0) rfl).2.1
            have hlp : lp = h.rest ++ pad all.length := hli
            have hp64 : lp.length % 64 = 0 := by rw [hlp]; exact pad_div hk
            have hll2 : lp.length ≤ 200 := by rw [hli]; simp [lens_len]; omega
            refine w_exit ?_
            refine w_seq ?_
            refine w_region ?_
            refine l_pptr rfl rfl ?_
            refine l_pptr rfl rfl ?_
            refine l_v rfl (q_fieldAddr rfl fo49_0 rfl) ?_
            refine l_v rfl (q_loadN (vs := [_, _, _, _, _, _, _, _]) rfl ag_47 rfl rfl ((H.cells 2 rfl).sub 0 8)) ?_
            refine b_alloc rfl ze_47 rfl H (fun b6 w H => ?_)
            first | refine b_store (cs' := [_, _, _, _, _, _, _, _]) rfl sz_47 rfl rfl rfl rfl rfl H 0 rfl rfl rfl (fun w H => ?_) | refine b_store (cs' := [_, _, _, _, _, _, _, _]) rfl sz_47 rfl rfl rfl rfl rfl H 1 rfl rfl rfl (fun w H => ?_) | refine b_store (cs' := [_, _, _, _, _, _, _, _]) rfl sz_47 rfl rfl rfl rfl rfl H 2 rfl rfl rfl (fun w H => ?_) | refine b_store (cs' := [_, _, _, _, _, _, _, _]) rfl sz_47 rfl rfl rfl rfl rfl H 3 rfl rfl rfl (fun w H => ?_) | refine b_store (cs' := [_, _, _, _, _, _, _, _]) rfl sz_47 rfl rfl rfl rfl rfl H 4 rfl rfl rfl (fun w H => ?_)
            refine l_nil ?_
            refine w_seq ?_
            refine w_region ?_
            refine b_call rfl cb_36 rfl (keys_ok H) (fun v w hv => ?_)
            obtain ⟨rfl, H⟩ := hv
            refine b_alloc rfl ze_82 rfl H (fun b7 w H => ?_)
            refine b_store (vs := keysL.map U) rfl sz_82 rfl rfl rfl rfl rfl H 0 rfl rfl (putL_all rfl) (fun w H => ?_)
            refine l_nil ?_
            refine w_seq ?_
            refine w_block ?_
            refine w_loopG (G := Option Addr × Nat × Nat × List UInt8 × S8) [3, 55, 56, 57, 58, 59, 60, 61, 62, 63] (fun ⟨a3, n3, c3, l3, s3⟩ => [(3, .slice a3 n3 c3)]) (fun m ⟨a3, n3, c3, l3, s3⟩ w => m = l3.length ∧ RdIn W (row 5 1 ap lp.length cp (lp.map B) :: blk b2 z32 32 :: hashL b h F) a3 (l3.map B) ∧ l3.length = n3 ∧ n3 ≤ c3 ∧ l3.length % 64 = 0 ∧ l3.length ≤ 9000000000000000000 ∧ loopW s3 l3 = loopW h.s lp ∧ St W w (blk b7 (keysL.map U) 82 :: blk b6 s3.cells 47 :: row 5 1 ap lp.length cp (lp.map B) :: blk b2 z32 32 :: hashL b h F)) (fun _ => rfl) ?_ ?_
            · exact ⟨lp.length, (ap, lp.length, cp, lp, h.s), ⟨rfl, trivial⟩, rfl, RdIn.row 0 rfl, rfl, hcp, hp64, by omega, rfl, H⟩
            · rintro m ⟨a3, n3, c3, l3, s3⟩ ρ1 w ⟨rfl, hr3, hl3, hc3, h643, hb3, hloop3, H⟩
              refine w_seq ?_
              refine w_seq ?_
              refine w_region ?_
              refine l_pslice rfl rfl ?_
              refine l_v rfl (q_lenSlice rfl el_22 rfl) ?_
              refine l_pbool rfl rfl ?_
              refine l_nil ?_
              refine w_cond rfl (fun c4 => ?_) (fun c4 => ?_)
              · try simp only [decide_eq_true_eq, decide_eq_false_iff_not, Bool.not_eq_true', Bool.not_eq_false', beq_iff_eq, beq_eq_false_iff_ne, bne_iff_ne, bne_eq_false_iff_eq, ne_eq, Int.not_lt, Int.not_le] at c4
                refine w_skip ?_
                refine w_seq ?_
                refine w_block ?_
                refine w_drawT [3, 4] [0] [(0, 1), (1, 0), (2, 0), (3, 2), (4, 2)] mixed (by kernel_rfl) (fun _ _ _ h => fin_panic h) H (fun H => ?_)
                refine r_v rfl rfl (fun w hS => q_loadN (vs := [_, _, _, _, _, _, _, _]) rfl ag_47 rfl rfl (by first | exact hS.cells 0 rfl | exact hS.cells 1 rfl | exact hS.cells 2 rfl | exact hS.cells 3 rfl | exact hS.cells 4 rfl)) ?_
                refine r_pslice rfl rfl rfl ?_
                refine r_w rfl rfl (fun w => q_slice rfl el_22 rfl Bnd.none (by first | exact Bnd.nat (by omega) | exact Bnd.mk ⟨by omega, by omega⟩) Bnd.none (by simp)) ?_
                refine r_do rfl ?_
                refine b_call rfl cb_37 rfl (block_ok H s3 (bs := l3.take 64) (n := 64) ((rdin_take hr3 64 c3).up 2 rfl) (by simp <;> omega) (by omega) (RdIn.blk 0 rfl)) (fun v w hv => ?_)
                obtain ⟨rfl, H⟩ := hv
                refine l_nil ⟨(fun h => nomatch h), ?_⟩
                refine r_do rfl ?_
                first | refine b_store (cs' := [_, _, _, _, _, _, _, _]) rfl sz_47 rfl rfl rfl rfl rfl H 0 rfl rfl rfl (fun w H => ?_) | refine b_store (cs' := [_, _, _, _, _, _, _, _]) rfl sz_47 rfl rfl rfl rfl rfl H 1 rfl rfl rfl (fun w H => ?_) | refine b_store (cs' := [_, _, _, _, _, _, _, _]) rfl sz_47 rfl rfl rfl rfl rfl H 2 rfl rfl rfl (fun w H => ?_) | refine b_store (cs' := [_, _, _, _, _, _, _, _]) rfl sz_47 rfl rfl rfl rfl rfl H 3 rfl rfl rfl (fun w H => ?_) | refine b_store (cs' := [_, _, _, _, _, _, _, _]) rfl sz_47 rfl rfl rfl rfl rfl H 4 rfl rfl rfl (fun w H => ?_)
                refine l_nil ⟨(fun h => nomatch h), ?_⟩
                refine r_nil ?_
                refine w_region ?_
                refine l_pslice rfl rfl ?_
                refine l_v rfl (q_slice rfl el_22 rfl Bnd.none Bnd.none (by first | exact Bnd.nat (by omega) | exact Bnd.mk ⟨by omega, by omega⟩) (by simp)) ?_
                refine l_pslice rfl rfl ?_
                refine l_nil ?_
                refine ⟨by repeat' first | exact Agr.mix _ _ _ | exact Agr.refl _ _ | refine Agr.inner rfl ?_ | refine Agr.upd rfl ?_ | refine Agr.updL' rfl ?_, ?_⟩
                exact ⟨(l3.drop 64).length, (subA a3 1 64 c3, n3 - 64, c3 - 64, l3.drop 64, block8 s3 (l3.take 64)), by simp <;> omega, ⟨rfl, trivial⟩, rfl, rdin_drop hr3 (by omega), by simp <;> omega, by omega, by simp <;> omega, by simp <;> omega, (loopW_big (by omega)).symm.trans hloop3, H⟩
              · try simp only [decide_eq_true_eq, decide_eq_false_iff_not, Bool.not_eq_true', Bool.not_eq_false', beq_iff_eq, beq_eq_false_iff_ne, bne_iff_ne, bne_eq_false_iff_eq, ne_eq, Int.not_lt, Int.not_le] at c4
                refine w_exit ?_
                refine w_seq ?_
                refine w_region ?_
                refine b_alloc rfl ze_32 rfl H (fun b8 w H => ?_)
                refine l_nil ?_
                refine w_seq ?_
                refine w_seq ?_
                refine w_region ?_
                refine l_v rfl (q_loadN (vs := [_, _, _, _, _, _, _, _]) rfl ag_47 rfl rfl (by first | exact H.cells 0 rfl | exact H.cells 1 rfl | exact H.cells 2 rfl | exact H.cells 3 rfl | exact H.cells 4 rfl)) ?_
                refine l_pint rfl rfl ?_
                refine l_nil ?_
                refine w_block ?_
                refine w_loopG (G := Nat) [9, 10, 11, 65, 66, 67, 68, 69, 70, 71, 72, 73, 74, 75, 76, 77, 78, 79, 80, 81, 82, 83, 84] (fun i => [(65, .int .i64 ((i : Nat) : Int))]) (fun m i w => m + i = 8 ∧ St W w (blk b8 ((outB s3 (4 * i)).map B) 32 :: blk b7 (keysL.map U) 82 :: blk b6 s3.cells 47 :: row 5 1 ap lp.length cp (lp.map B) :: blk b2 z32 32 :: hashL b h F)) (fun _ => rfl) ?_ ?_
                · refine ⟨8, 0, ⟨rfl, trivial⟩, rfl, ?_⟩
                  rw [show (outB s3 (4 * 0)).map B = z32 from by rw [Nat.mul_zero, outB]; rfl]
                  exact H
                · rintro m i ρ1 w ⟨hmi8, H⟩
                  refine w_seq ?_
                  refine w_region ?_
                  refine l_pbool rfl rfl ?_
                  refine l_nil ?_
                  refine w_seq ?_
                  refine w_cond rfl (fun c5 => ?_) (fun c5 => ?_)
                  · try simp only [decide_eq_true_eq, decide_eq_false_iff_not, Bool.not_eq_true', Bool.not_eq_false', beq_iff_eq, beq_eq_false_iff_ne, bne_iff_ne, bne_eq_false_iff_eq, ne_eq, Int.not_lt, Int.not_le] at c5
                    refine w_skip ?_
                    refine w_seq ?_
                    refine w_block ?_
                    refine w_seq ?_
                    refine w_region ?_
                    refine l_pint rfl rfl ?_
                    refine l_v rfl (q_indexAgg1 (cs := s3.list.map U) (v := U (s3.list.getD i 0)) rfl ar_47 c1_45 rfl rfl ⟨by omega, by omega⟩ (get_U (by show i < 8; omega))) ?_
                    refine l_pint rfl rfl ?_
                    first | refine l_p (v := U _) rfl rfl ?_ | refine l_pint rfl rfl ?_
                    refine l_nil ?_
                    refine w_seq ?_
                    refine w_region ?_
                    refine l_pint rfl rfl ?_
                    refine l_nil ?_
                    refine w_block ?_
                    refine w_loopG (G := Nat) [11, 69, 70, 71, 72, 73, 74, 75, 76, 77, 78, 79, 80, 81, 82, 83] (fun j => [(69, .int .i64 ((j : Nat) : Int))]) (fun m j w => m + j = 4 ∧ St W w (blk b8 ((outB s3 (4 * i + j)).map B) 32 :: blk b7 (keysL.map U) 82 :: blk b6 s3.cells 47 :: row 5 1 ap lp.length cp (lp.map B) :: blk b2 z32 32 :: hashL b h F)) (fun _ => rfl) ?_ ?_
                    · exact ⟨4, 0, ⟨rfl, trivial⟩, rfl, H⟩
                    · rintro m j ρ1 w ⟨hmj, H⟩
                      refine w_seq ?_
                      refine w_region ?_
                      refine l_pbool rfl rfl ?_
                      refine l_nil ?_
                      refine w_seq ?_
                      refine w_cond rfl (fun c6 => ?_) (fun c6 => ?_)
                      · try simp only [decide_eq_true_eq, decide_eq_false_iff_not, Bool.not_eq_true', Bool.not_eq_false', beq_iff_eq, beq_eq_false_iff_ne, bne_iff_ne, bne_eq_false_iff_eq, ne_eq, Int.not_lt, Int.not_le] at c6
                        have hj6 : j < 4 := by omega
                        refine w_skip ?_
                        refine w_seq ?_
                        refine w_block ?_
                        refine w_seq ?_
                        refine w_region ?_
                        refine l_pint rfl rfl ?_
                        refine l_pint rfl rfl ?_
                        refine l_nil ?_
                        refine w_region ?_
                        refine l_pint rfl rfl ?_
                        first | refine l_v rfl (q_mul rfl rfl rfl (by simp only [inK]; omega)) ?_ | refine l_pint rfl rfl ?_
                        refine l_pint rfl rfl ?_
                        first | refine l_v rfl (q_add rfl rfl rfl (by simp only [inK]; omega)) ?_ | refine l_pint rfl rfl ?_
                        first | refine l_p (v := U _) rfl rfl ?_ | refine l_pint rfl rfl ?_
                        refine l_pint rfl rfl ?_
                        first | refine l_v rfl (q_mul rfl rfl rfl (by simp only [inK]; omega)) ?_ | refine l_pint rfl rfl ?_
                        first | refine l_v rfl (q_sub rfl rfl rfl (by simp only [inK]; omega)) ?_ | refine l_pint rfl rfl ?_
                        refine l_v rfl (q_pure (u_shr (n := 24 - 8 * j) rfl (congrArg (Value.int .i64) (by omega)) (by omega))) ?_
                        refine l_v rfl (q_lowB rfl rfl in_5 rfl) ?_
                        refine l_v rfl (q_indexArrE (4 * i + j) rfl ar_32 rfl rfl (by omega) (by omega)) ?_
                        refine b_store (vs := [B (s3.list.getD i 0 >>> UInt32.ofNat (24 - 8 * j)).toUInt8]) (cs' := (outB s3 (4 * i + (j + 1))).map B) rfl sz_5 rfl rfl rfl rfl rfl H 0 rfl (by simp [outB_len, Nat.ble_eq, -Nat.reduceMul]; omega) (out_put hj6 rfl) (fun w H => ?_)
                        refine l_nil ?_
                        refine w_region ?_
                        first | refine l_v rfl (q_add rfl rfl rfl (by simp only [inK]; omega)) ?_ | refine l_pint rfl rfl ?_
                        refine l_pint rfl rfl ?_
                        refine l_nil ?_
                        refine ⟨by repeat' first | exact Agr.mix _ _ _ | exact Agr.refl _ _ | refine Agr.inner rfl ?_ | refine Agr.upd rfl ?_ | refine Agr.updL' rfl ?_, ?_⟩
                        exact ⟨m - 1, j + 1, by omega, ⟨by exact congrArg (Value.int IntKind.i64) (Int.natCast_succ j).symm, trivial⟩, by omega, H⟩
                      · try simp only [decide_eq_true_eq, decide_eq_false_iff_not, Bool.not_eq_true', Bool.not_eq_false', beq_iff_eq, beq_eq_false_iff_ne, bne_iff_ne, bne_eq_false_iff_eq, ne_eq, Int.not_lt, Int.not_le] at c6
                        obtain rfl : j = 4 := by omega
                        have H : St W w (blk b8 ((outB s3 (4 * (i + 1))).map B) 32 :: blk b7 (keysL.map U) 82 :: blk b6 s3.cells 47 :: row 5 1 ap lp.length cp (lp.map B) :: blk b2 z32 32 :: hashL b h F) := H
                        refine w_exit ?_
                        refine w_region ?_
                        first | refine l_v rfl (q_add rfl rfl rfl (by simp only [inK]; omega)) ?_ | refine l_pint rfl rfl ?_
                        refine l_pint rfl rfl ?_
                        refine l_nil ?_
                        refine ⟨by repeat' first | exact Agr.mix _ _ _ | exact Agr.refl _ _ | refine Agr.inner rfl ?_ | refine Agr.upd rfl ?_ | refine Agr.updL' rfl ?_, ?_⟩
                        exact ⟨8 - (i + 1), i + 1, by omega, ⟨by exact congrArg (Value.int IntKind.i64) (Int.natCast_succ i).symm, trivial⟩, by omega, H⟩
                  · try simp only [decide_eq_true_eq, decide_eq_false_iff_not, Bool.not_eq_true', Bool.not_eq_false', beq_iff_eq, beq_eq_false_iff_ne, bne_iff_ne, bne_eq_false_iff_eq, ne_eq, Int.not_lt, Int.not_le] at c5
                    obtain rfl : i = 8 := by omega
                    refine w_exit ?_
                    refine w_seq ?_
                    refine w_region ?_
                    refine l_v rfl (q_loadN (vs := (outB s3 32).map B) rfl ag_32 rfl (by simp [outB_len]) (H.cells 0 rfl)) ?_
                    refine b_store (vs := (outB s3 32).map B) rfl sz_32 rfl rfl rfl (by simp [outB_len]) (all1 _) H 4 rfl (by simp [outB_len, z32]) (putL_all (by simp [outB_len, z32])) (fun w H => ?_)
                    refine l_nil ?_
                    refine w_ret ?_
                    refine finc rfl ag_32 (by simp [outB_len]) (H.cells 4 rfl) ?_
                    have hl0 : l3 = [] := List.eq_nil_of_length_eq_zero (by omega)
                    subst hl0
                    have e3 : s3 = (loopW h.s lp).1 := by rw [← hloop3, loopW_small (by simp)]
                    refine ⟨?_, H.erase (0 + 4) |>.erase 3 |>.erase 2 |>.erase 1 |>.erase 0⟩
                    rw [shaL_of hk, ← hlp, ← e3]

end Go.Proofs.Ytcmmbjplekgihaa
