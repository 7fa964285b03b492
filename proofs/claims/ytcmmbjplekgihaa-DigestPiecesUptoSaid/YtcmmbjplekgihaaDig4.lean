/- The hasher's Write does what its contract says. -/
import Derived.Test.YtcmmbjplekgihaaDig3
namespace Go.Proofs.Ytcmmbjplekgihaa
open Go.EW
attribute [local irreducible] EW.W EW.L EW.fin block8
set_option linter.unusedVariables false
set_option linter.unusedSimpArgs false

/-- the state behind the first k blocks -/
def blocks (s : S8) (l : List UInt8) : Nat → S8
  | 0 => s
  | k + 1 => block8 (blocks s l k) ((l.drop (64 * k)).take 64)
def loopW (s : S8) (l : List UInt8) : S8 × List UInt8 := (blocks s l (l.length / 64), l.drop (64 * (l.length / 64)))
def writeW (s : S8) (rest bs : List UInt8) : S8 × List UInt8 :=
  if rest.length > 0 then
    if (rest ++ bs.take (min (64 - rest.length) bs.length)).length < 64 then (s, rest ++ bs.take (min (64 - rest.length) bs.length))
    else loopW (block8 s (rest ++ bs.take (min (64 - rest.length) bs.length))) (bs.drop (min (64 - rest.length) bs.length))
  else loopW s bs


theorem rdin_take {W : World} {F : List Seg} {a : Option Addr} {bs : List UInt8} (h : RdIn W F a (bs.map B)) (m c : Nat) : RdIn W F (subA a 1 0 c) ((bs.take m).map B) := by
  have := h.subA (sz := 1) (l := 0) (m := c) (j := m) (fun _ => .inr rfl)
  simpa [List.map_take] using this
theorem rdin_drop {W : World} {F : List Seg} {a : Option Addr} {bs : List UInt8} (h : RdIn W F a (bs.map B)) {k c : Nat} (hc : bs.length ≤ c) : RdIn W F (subA a 1 k c) ((bs.drop k).map B) := by
  have := h.subA (sz := 1) (l := k) (m := c) (j := bs.length - k) (fun hk => .inl (by omega))
  rw [Nat.mul_one, List.take_of_length_le (by simp)] at this
  simpa [List.map_drop] using this
theorem blocks_succ' (s : S8) (l : List UInt8) : ∀ k, blocks s l (k + 1) = blocks (block8 s (l.take 64)) (l.drop 64) k
  | 0 => by simp [blocks]
  | k + 1 => by
    rw [blocks, blocks_succ' s l k, blocks, List.drop_drop]
    congr 3
    omega
theorem loopW_big {s : S8} {l : List UInt8} (h : 64 ≤ l.length) : loopW s l = loopW (block8 s (l.take 64)) (l.drop 64) := by
  unfold loopW
  have e : l.length / 64 = (l.length - 64) / 64 + 1 := by omega
  rw [e, List.length_drop, blocks_succ', List.drop_drop]
  congr 2
  omega
theorem loopW_small {s : S8} {l : List UInt8} (h : l.length < 64) : loopW s l = (s, l) := by
  unfold loopW
  rw [Nat.div_eq_of_lt h]; simp [blocks]

theorem Write_ok {W w : World} {F : List Seg} {b : Nat} {h : HS} (H : St W w (hashL b h F)) (hrest : h.rest.length < 64) {a : Option Addr} {n cap : Nat} {bs : List UInt8} (hr : RdIn W F a (bs.map B)) (hl : bs.length = n) (hcap : n ≤ cap) (hn : n ≤ 140737488355200) (hnn : 0 ≤ h.n ∧ h.n ≤ 4611686018427387904) :
    Ok Try.prog 18 [.pointer (some ⟨b, 0, none⟩), .slice a n cap].toArray w (fun v w' => v = .tuple #[] ∧ ∃ ra rcap, St W w' (hashL b ⟨(writeW h.s h.rest bs).1, ra, rcap, (writeW h.s h.rest bs).2, h.n + n⟩ F)) := by
  obtain ⟨keys, hkeys⟩ : ∃ k, k = keysL.map U := ⟨_, rfl⟩
  refine enter (n := 98) (rs := #[]) Try.func18 rfl rfl rfl rfl ?_
  refine w_seq ?_
  refine w_seq ?_
  refine w_region ?_
  refine l_pptr rfl rfl ?_
  refine b_call rfl cb_35 rfl (good_ok (i := 0) (t := true) H rfl rfl) (fun v w hv => ?_)
  obtain ⟨rfl, rfl⟩ := hv
  refine l_pbool rfl rfl ?_
  refine l_nil ?_
  refine w_cond rfl (fun c1 => ?_) (fun c1 => ?_)
  · try simp only [decide_eq_true_eq, decide_eq_false_iff_not, Bool.not_eq_true', Bool.not_eq_false', beq_iff_eq, beq_eq_false_iff_ne, bne_iff_ne, bne_eq_false_iff_eq, ne_eq, Int.not_lt, Int.not_le] at c1
    refine w_ret ?_
    refine fin0 ?_
    exact absurd c1 (by decide)
  · try simp only [decide_eq_true_eq, decide_eq_false_iff_not, Bool.not_eq_true', Bool.not_eq_false', beq_iff_eq, beq_eq_false_iff_ne, bne_iff_ne, bne_eq_false_iff_eq, ne_eq, Int.not_lt, Int.not_le] at c1
    refine w_skip ?_
    refine w_seq ?_
    refine w_region ?_
    refine l_pptr rfl rfl ?_
    refine l_pptr rfl rfl ?_
    refine l_v rfl (q_fieldAddr rfl fo49_2 rfl) ?_
    refine l_v rfl (q_load1 rfl c1_3 rfl (by first | exact H.cell 0 rfl rfl | exact H.cell 1 rfl rfl | exact H.cell 2 rfl rfl | exact H.cell 3 rfl rfl)) ?_
    refine l_pslice rfl rfl ?_
    refine l_v rfl (q_lenSlice rfl el_22 rfl) ?_
    first | refine l_v rfl (q_add rfl rfl rfl (by simp only [inK]; omega)) ?_ | refine l_pint rfl rfl ?_
    refine l_pptr rfl rfl ?_
    refine l_v rfl (q_fieldAddr rfl fo49_2 rfl) ?_
    first | refine b_store (cs' := [_, _, _, _, _, _, _, _, _, _, _]) rfl sz_3 rfl rfl rfl rfl rfl H 0 rfl rfl rfl (fun w H => ?_) | refine b_store (cs' := [_, _, _, _, _, _, _, _, _, _, _]) rfl sz_3 rfl rfl rfl rfl rfl H 1 rfl rfl rfl (fun w H => ?_) | refine b_store (cs' := [_, _, _, _, _, _, _, _, _, _, _]) rfl sz_3 rfl rfl rfl rfl rfl H 2 rfl rfl rfl (fun w H => ?_) | refine b_store (cs' := [_, _, _, _, _, _, _, _, _, _, _]) rfl sz_3 rfl rfl rfl rfl rfl H 3 rfl rfl rfl (fun w H => ?_)
    refine l_nil ?_
    refine w_seq ?_
    refine w_region ?_
    refine b_call rfl cb_36 rfl (keys_ok H) (fun v w hv => ?_)
    obtain ⟨rfl, H⟩ := hv
    refine b_alloc rfl ze_82 rfl H (fun b4 w H => ?_)
    refine b_store (vs := keysL.map U) rfl sz_82 rfl rfl rfl rfl rfl H 0 rfl rfl (putL_all rfl) (fun w H => ?_)
    refine l_nil ?_
    refine w_cutG (G := Option Addr × Nat × Nat × List UInt8 × HS) [1, 5, 19, 20, 21, 22, 23, 24, 25, 26, 27, 28, 29, 30, 31, 32, 33, 34, 35, 36, 37, 38, 39, 40, 41, 42, 43, 44, 45, 46, 47, 48, 49, 50, 51, 52, 53, 54, 55, 56, 57, 58, 59, 60, 61, 62, 63, 64, 65, 66, 67, 68, 69, 70, 71, 72, 73] (fun ⟨a1, n1, cp1, l1, h1⟩ => [(1, .slice a1 n1 cp1)]) (fun ⟨a1, n1, cp1, l1, h1⟩ w => RdIn W F a1 (l1.map B) ∧ l1.length = n1 ∧ n1 ≤ cp1 ∧ n1 ≤ 140737488355328 ∧ h1.rest = [] ∧ h1.n = h.n + n ∧ loopW h1.s l1 = writeW h.s h.rest bs ∧ St W w (blk b4 (keysL.map U) 82 :: hashL b h1 F)) (fun _ => rfl) ?_ ?_
    · refine w_seq ?_
      refine w_region ?_
      refine l_pptr rfl rfl ?_
      refine l_pptr rfl rfl ?_
      refine l_v rfl (q_fieldAddr rfl fo49_1 rfl) ?_
      refine l_v rfl (q_load1 rfl c1_22 rfl (by first | exact H.cell 0 rfl rfl | exact H.cell 1 rfl rfl | exact H.cell 2 rfl rfl | exact H.cell 3 rfl rfl)) ?_
      refine l_v rfl (q_lenSlice rfl el_22 rfl) ?_
      refine l_pbool rfl rfl ?_
      refine l_nil ?_
      refine w_cond rfl (fun c2 => ?_) (fun c2 => ?_)
      · try simp only [decide_eq_true_eq, decide_eq_false_iff_not, Bool.not_eq_true', Bool.not_eq_false', beq_iff_eq, beq_eq_false_iff_ne, bne_iff_ne, bne_eq_false_iff_eq, ne_eq, Int.not_lt, Int.not_le] at c2
        refine w_seq ?_
        refine w_region ?_
        refine l_pptr rfl rfl ?_
        refine l_pptr rfl rfl ?_
        refine l_v rfl (q_fieldAddr rfl fo49_1 rfl) ?_
        refine l_v rfl (q_load1 rfl c1_22 rfl (by first | exact H.cell 0 rfl rfl | exact H.cell 1 rfl rfl | exact H.cell 2 rfl rfl | exact H.cell 3 rfl rfl)) ?_
        refine l_v rfl (q_lenSlice rfl el_22 rfl) ?_
        first | refine l_v rfl (q_sub rfl rfl rfl (by simp only [inK]; omega)) ?_ | refine l_pint rfl rfl ?_
        refine l_pslice rfl rfl ?_
        refine l_v rfl (q_lenSlice rfl el_22 rfl) ?_
        refine l_v rfl (q_min (((min (64 - h.rest.length) bs.length) : Nat) : Int) rfl rfl rfl (by split <;> omega)) ?_
        refine l_pint rfl rfl ?_
        refine l_nil ?_
        refine w_seq ?_
        refine w_drawT [8, 11] [4] [(0, 0), (1, 0), (2, 0), (3, 0), (4, 1), (5, 0), (6, 0), (7, 0), (8, 2), (9, 0), (10, 0), (11, 2)] mixed (by kernel_rfl) (fun _ _ _ h => fin_panic h) H (fun H => ?_)
        refine r_pptr rfl rfl rfl ?_
        refine r_pptr rfl rfl rfl ?_
        refine r_pptr rfl rfl rfl ?_
        refine r_w rfl rfl (fun w => q_fieldAddr rfl fo49_1 rfl) ?_
        refine r_v rfl rfl (fun w hS => q_load1 rfl c1_22 rfl (by first | exact hS.cell 0 rfl rfl | exact hS.cell 1 rfl rfl | exact hS.cell 2 rfl rfl | exact hS.cell 3 rfl rfl)) ?_
        refine r_pslice rfl rfl rfl ?_
        refine r_pint rfl rfl rfl ?_
        refine r_w rfl rfl (fun w => q_slice rfl el_22 rfl Bnd.none (by first | exact Bnd.nat (by omega) | exact Bnd.mk ⟨by omega, by omega⟩) Bnd.none (by simp)) ?_
        refine r_do rfl ?_
        refine b_append rfl el_22 ze_5 rfl rfl rfl H 2 rfl (ys := (bs.take (min (64 - h.rest.length) bs.length)).map B) ((rdin_take hr (min (64 - h.rest.length) bs.length) cap).use H 3 rfl) (by simp <;> omega) (oneB _) ⟨by omega, by simp only [maxLen]; omega⟩ (fun a42 c42 w H => ?_)
        refine l_nil ⟨(fun h => nomatch h), ?_⟩
        refine r_pptr rfl rfl rfl ?_
        refine r_w rfl rfl (fun w => q_fieldAddr rfl fo49_1 rfl) ?_
        refine r_do rfl ?_
        first | refine b_store (cs' := [_, _, _, _, _, _, _, _, _, _, _]) rfl sz_22 rfl rfl rfl rfl rfl H 0 rfl rfl rfl (fun w H => ?_) | refine b_store (cs' := [_, _, _, _, _, _, _, _, _, _, _]) rfl sz_22 rfl rfl rfl rfl rfl H 1 rfl rfl rfl (fun w H => ?_) | refine b_store (cs' := [_, _, _, _, _, _, _, _, _, _, _]) rfl sz_22 rfl rfl rfl rfl rfl H 2 rfl rfl rfl (fun w H => ?_) | refine b_store (cs' := [_, _, _, _, _, _, _, _, _, _, _]) rfl sz_22 rfl rfl rfl rfl rfl H 3 rfl rfl rfl (fun w H => ?_)
        refine l_nil ⟨(fun h => nomatch h), ?_⟩
        refine r_nil ?_
        refine w_seq ?_
        refine w_region ?_
        refine l_pslice rfl rfl ?_
        refine l_pint rfl rfl ?_
        refine l_v rfl (q_slice rfl el_22 rfl Bnd.none Bnd.none (by first | exact Bnd.nat (by omega) | exact Bnd.mk ⟨by omega, by omega⟩) (by simp)) ?_
        refine l_pslice rfl rfl ?_
        refine l_nil ?_
        refine w_seq ?_
        refine w_seq ?_
        refine w_region ?_
        refine l_pptr rfl rfl ?_
        refine l_pptr rfl rfl ?_
        refine l_v rfl (q_fieldAddr rfl fo49_1 rfl) ?_
        refine l_v rfl (q_load1 rfl c1_22 rfl (by first | exact H.cell 0 rfl rfl | exact H.cell 1 rfl rfl | exact H.cell 2 rfl rfl | exact H.cell 3 rfl rfl)) ?_
        refine l_v rfl (q_lenSlice rfl el_22 rfl) ?_
        refine l_pbool rfl rfl ?_
        refine l_nil ?_
        refine w_cond rfl (fun c3 => ?_) (fun c3 => ?_)
        · try simp only [decide_eq_true_eq, decide_eq_false_iff_not, Bool.not_eq_true', Bool.not_eq_false', beq_iff_eq, beq_eq_false_iff_ne, bne_iff_ne, bne_eq_false_iff_eq, ne_eq, Int.not_lt, Int.not_le] at c3
          refine w_ret ?_
          refine fin0 ?_
          have hlen : ((h.rest ++ bs.take (min (64 - h.rest.length) bs.length))).length = h.rest.length + (min (64 - h.rest.length) bs.length) := by simp <;> omega
          have e : writeW h.s h.rest bs = (h.s, (h.rest ++ bs.take (min (64 - h.rest.length) bs.length))) := by unfold writeW; rw [if_pos (by omega), if_pos (by rw [hlen]; omega)]
          have H2 : St W w (blk b [U (h.s).a, U (h.s).b, U (h.s).c, U (h.s).d, U (h.s).e, U (h.s).f, U (h.s).g, U (h.s).h, .slice a42 (h.rest.length + (min (64 - h.rest.length) bs.length)) c42, .int .i64 (h.n + n), .bool true] 49 :: row 5 1 a42 (h.rest.length + (min (64 - h.rest.length) bs.length)) c42 (h.rest.map B ++ (bs.take (min (64 - h.rest.length) bs.length)).map B) :: F) := H.erase 0
          refine ⟨rfl, a42, c42, ?_⟩
          rw [e]
          unfold hashL HS.cells
          simp only [hlen, List.map_append]
          exact H2
        · try simp only [decide_eq_true_eq, decide_eq_false_iff_not, Bool.not_eq_true', Bool.not_eq_false', beq_iff_eq, beq_eq_false_iff_ne, bne_iff_ne, bne_eq_false_iff_eq, ne_eq, Int.not_lt, Int.not_le] at c3
          refine w_skip ?_
          refine w_seq ?_
          refine w_drawT [9, 12] [4, 8] [(0, 0), (1, 0), (2, 0), (3, 0), (4, 1), (5, 0), (6, 0), (7, 0), (8, 1), (9, 2), (10, 0), (11, 0), (12, 2)] mixed (by kernel_rfl) (fun _ _ _ h => fin_panic h) H (fun H => ?_)
          refine r_pptr rfl rfl rfl ?_
          refine r_pptr rfl rfl rfl ?_
          refine r_pptr rfl rfl rfl ?_
          refine r_w rfl rfl (fun w => q_fieldAddr rfl fo49_0 rfl) ?_
          refine r_v rfl rfl (fun w hS => q_loadN (vs := [_, _, _, _, _, _, _, _]) rfl ag_47 rfl rfl ((hS.cells 1 rfl).sub 0 8)) ?_
          refine r_pptr rfl rfl rfl ?_
          refine r_pptr rfl rfl rfl ?_
          refine r_w rfl rfl (fun w => q_fieldAddr rfl fo49_1 rfl) ?_
          refine r_v rfl rfl (fun w hS => q_load1 rfl c1_22 rfl (by first | exact hS.cell 0 rfl rfl | exact hS.cell 1 rfl rfl | exact hS.cell 2 rfl rfl | exact hS.cell 3 rfl rfl)) ?_
          refine r_do rfl ?_
          refine b_call rfl cb_37 rfl (block_ok H h.s (bs := (h.rest ++ bs.take (min (64 - h.rest.length) bs.length))) (by rw [List.map_append]; exact RdIn.row 2 rfl) (by simp <;> omega) (by omega) (RdIn.blk 0 rfl)) (fun v w hv => ?_)
          obtain ⟨rfl, H⟩ := hv
          refine l_nil ⟨(fun h => nomatch h), ?_⟩
          refine r_pptr rfl rfl rfl ?_
          refine r_w rfl rfl (fun w => q_fieldAddr rfl fo49_0 rfl) ?_
          refine r_do rfl ?_
          first | refine b_store (cs' := [_, _, _, _, _, _, _, _, _, _, _]) rfl sz_47 rfl rfl rfl rfl rfl H 0 rfl rfl rfl (fun w H => ?_) | refine b_store (cs' := [_, _, _, _, _, _, _, _, _, _, _]) rfl sz_47 rfl rfl rfl rfl rfl H 1 rfl rfl rfl (fun w H => ?_) | refine b_store (cs' := [_, _, _, _, _, _, _, _, _, _, _]) rfl sz_47 rfl rfl rfl rfl rfl H 2 rfl rfl rfl (fun w H => ?_) | refine b_store (cs' := [_, _, _, _, _, _, _, _, _, _, _]) rfl sz_47 rfl rfl rfl rfl rfl H 3 rfl rfl rfl (fun w H => ?_)
          refine l_nil ⟨(fun h => nomatch h), ?_⟩
          refine r_nil ?_
          refine w_region ?_
          refine l_pptr rfl rfl ?_
          refine l_pptr rfl rfl ?_
          refine l_pptr rfl rfl ?_
          refine l_v rfl (q_fieldAddr rfl fo49_1 rfl) ?_
          refine l_v rfl (q_load1 rfl c1_22 rfl (by first | exact H.cell 0 rfl rfl | exact H.cell 1 rfl rfl | exact H.cell 2 rfl rfl | exact H.cell 3 rfl rfl)) ?_
          refine l_v rfl (q_slice rfl el_22 rfl Bnd.none (by first | exact Bnd.nat (by omega) | exact Bnd.mk ⟨by omega, by omega⟩) Bnd.none (by simp)) ?_
          refine l_pptr rfl rfl ?_
          refine l_v rfl (q_fieldAddr rfl fo49_1 rfl) ?_
          first | refine b_store (cs' := [_, _, _, _, _, _, _, _, _, _, _]) rfl sz_22 rfl rfl rfl rfl rfl H 0 rfl rfl rfl (fun w H => ?_) | refine b_store (cs' := [_, _, _, _, _, _, _, _, _, _, _]) rfl sz_22 rfl rfl rfl rfl rfl H 1 rfl rfl rfl (fun w H => ?_) | refine b_store (cs' := [_, _, _, _, _, _, _, _, _, _, _]) rfl sz_22 rfl rfl rfl rfl rfl H 2 rfl rfl rfl (fun w H => ?_) | refine b_store (cs' := [_, _, _, _, _, _, _, _, _, _, _]) rfl sz_22 rfl rfl rfl rfl rfl H 3 rfl rfl rfl (fun w H => ?_)
          refine l_nil ?_
          refine ⟨by repeat' first | exact Agr.mix _ _ _ | exact Agr.refl _ _ | refine Agr.inner rfl ?_ | refine Agr.upd rfl ?_ | refine Agr.updL' rfl ?_, ?_⟩
          have hlen : ((h.rest ++ bs.take (min (64 - h.rest.length) bs.length))).length = h.rest.length + (min (64 - h.rest.length) bs.length) := by simp <;> omega
          have e : writeW h.s h.rest bs = loopW (block8 h.s (h.rest ++ bs.take (min (64 - h.rest.length) bs.length))) (bs.drop (min (64 - h.rest.length) bs.length)) := by unfold writeW; rw [if_pos (by omega), if_neg (by rw [hlen]; omega)]
          have H2 : St W w (row 5 1 a42 0 c42 ((h.rest.map B ++ (bs.take (min (64 - h.rest.length) bs.length)).map B).take (0 * 1)) :: blk b4 (keysL.map U) 82 :: blk b [U (block8 h.s (h.rest ++ bs.take (min (64 - h.rest.length) bs.length))).a, U (block8 h.s (h.rest ++ bs.take (min (64 - h.rest.length) bs.length))).b, U (block8 h.s (h.rest ++ bs.take (min (64 - h.rest.length) bs.length))).c, U (block8 h.s (h.rest ++ bs.take (min (64 - h.rest.length) bs.length))).d, U (block8 h.s (h.rest ++ bs.take (min (64 - h.rest.length) bs.length))).e, U (block8 h.s (h.rest ++ bs.take (min (64 - h.rest.length) bs.length))).f, U (block8 h.s (h.rest ++ bs.take (min (64 - h.rest.length) bs.length))).g, U (block8 h.s (h.rest ++ bs.take (min (64 - h.rest.length) bs.length))).h, .slice (subA a42 1 0 c42) 0 c42, .int .i64 (h.n + n), .bool true] 49 :: F) := (H.front 2 rfl).imp (row_shrink (k := 0) (by omega))
          rw [subA_z] at H2
          exact ⟨(subA a 1 (min (64 - h.rest.length) bs.length) cap, n - (min (64 - h.rest.length) bs.length), cap - (min (64 - h.rest.length) bs.length), bs.drop (min (64 - h.rest.length) bs.length), ⟨block8 h.s (h.rest ++ bs.take (min (64 - h.rest.length) bs.length)), a42, c42, [], h.n + n⟩), ⟨rfl, trivial⟩, rdin_drop hr (by omega), by simp <;> omega, by omega, by omega, rfl, rfl, e.symm, H2.pick [1, 2, 0] (pre := [_, _, _]) rfl rfl⟩
      · try simp only [decide_eq_true_eq, decide_eq_false_iff_not, Bool.not_eq_true', Bool.not_eq_false', beq_iff_eq, beq_eq_false_iff_ne, bne_iff_ne, bne_eq_false_iff_eq, ne_eq, Int.not_lt, Int.not_le] at c2
        refine w_skip ?_
        refine ⟨by repeat' first | exact Agr.mix _ _ _ | exact Agr.refl _ _ | refine Agr.inner rfl ?_ | refine Agr.upd rfl ?_ | refine Agr.updL' rfl ?_, ?_⟩
        exact ⟨(a, n, cap, bs, ⟨h.s, h.ra, h.rcap, h.rest, h.n + n⟩), ⟨rfl, trivial⟩, hr, hl, hcap, by omega, List.eq_nil_of_length_eq_zero (by show h.rest.length = 0; omega), rfl, by unfold writeW; rw [if_neg (by omega)], H⟩
    · rintro ⟨a1, n1, cp1, l1, h1⟩ ρ1 w ⟨hr1, hl1, hc1, hb1, hrest1, hn1, hloop, H⟩
      refine w_seq ?_
      refine w_block ?_
      refine w_loopG (G := Option Addr × Nat × Nat × List UInt8 × S8) [1, 74, 75, 76, 77, 78, 79, 80, 81, 82, 83, 84, 85, 86, 87, 88] (fun ⟨a2, n2, c2, l2, s2⟩ => [(1, .slice a2 n2 c2)]) (fun m ⟨a2, n2, c2, l2, s2⟩ w => m = l2.length ∧ RdIn W F a2 (l2.map B) ∧ l2.length = n2 ∧ n2 ≤ c2 ∧ n2 ≤ 140737488355328 ∧ loopW s2 l2 = writeW h.s h.rest bs ∧ St W w (blk b4 (keysL.map U) 82 :: hashL b ⟨s2, h1.ra, h1.rcap, [], h.n + n⟩ F)) (fun _ => rfl) ?_ ?_
      · refine ⟨l1.length, (a1, n1, cp1, l1, h1.s), ⟨rfl, trivial⟩, rfl, hr1, hl1, hc1, hb1, hloop, ?_⟩
        obtain ⟨s', ra', rc', rest', n'⟩ := h1
        simp only at hrest1 hn1
        subst hrest1; subst hn1
        exact H
      · rintro m ⟨a2, n2, c2, l2, s2⟩ ρ1 w ⟨rfl, hr2, hl2, hc2, hb2, hloop2, H⟩
        refine w_seq ?_
        refine w_seq ?_
        refine w_region ?_
        refine l_pslice rfl rfl ?_
        refine l_v rfl (q_lenSlice rfl el_22 rfl) ?_
        refine l_pbool rfl rfl ?_
        refine l_nil ?_
        refine w_cond rfl (fun c4 => ?_) (fun c4 => ?_)
        · try simp only [decide_eq_true_eq, decide_eq_false_iff_not, Bool.not_eq_true', Bool.not_eq_false', beq_iff_eq, beq_eq_false_iff_ne, bne_iff_ne, bne_eq_false_iff_eq, ne_eq, Int.not_lt, Int.not_le] at c4
          refine w_skip ?_
          refine w_block ?_
          refine w_seq ?_
          refine w_drawT [7, 10] [4] [(0, 0), (1, 0), (2, 0), (3, 0), (4, 1), (5, 0), (6, 0), (7, 2), (8, 0), (9, 0), (10, 2)] mixed (by kernel_rfl) (fun _ _ _ h => fin_panic h) H (fun H => ?_)
          refine r_pptr rfl rfl rfl ?_
          refine r_pptr rfl rfl rfl ?_
          refine r_pptr rfl rfl rfl ?_
          refine r_w rfl rfl (fun w => q_fieldAddr rfl fo49_0 rfl) ?_
          refine r_v rfl rfl (fun w hS => q_loadN (vs := [_, _, _, _, _, _, _, _]) rfl ag_47 rfl rfl ((hS.cells 1 rfl).sub 0 8)) ?_
          refine r_pslice rfl rfl rfl ?_
          refine r_w rfl rfl (fun w => q_slice rfl el_22 rfl Bnd.none (by first | exact Bnd.nat (by omega) | exact Bnd.mk ⟨by omega, by omega⟩) Bnd.none (by simp)) ?_
          refine r_do rfl ?_
          refine b_call rfl cb_37 rfl (block_ok H s2 (bs := l2.take 64) (n := 64) ((rdin_take hr2 64 c2).up 3 rfl) (by simp <;> omega) (by omega) (RdIn.blk 0 rfl)) (fun v w hv => ?_)
          obtain ⟨rfl, H⟩ := hv
          refine l_nil ⟨(fun h => nomatch h), ?_⟩
          refine r_pptr rfl rfl rfl ?_
          refine r_w rfl rfl (fun w => q_fieldAddr rfl fo49_0 rfl) ?_
          refine r_do rfl ?_
          first | refine b_store (cs' := [_, _, _, _, _, _, _, _, _, _, _]) rfl sz_47 rfl rfl rfl rfl rfl H 0 rfl rfl rfl (fun w H => ?_) | refine b_store (cs' := [_, _, _, _, _, _, _, _, _, _, _]) rfl sz_47 rfl rfl rfl rfl rfl H 1 rfl rfl rfl (fun w H => ?_) | refine b_store (cs' := [_, _, _, _, _, _, _, _, _, _, _]) rfl sz_47 rfl rfl rfl rfl rfl H 2 rfl rfl rfl (fun w H => ?_) | refine b_store (cs' := [_, _, _, _, _, _, _, _, _, _, _]) rfl sz_47 rfl rfl rfl rfl rfl H 3 rfl rfl rfl (fun w H => ?_)
          refine l_nil ⟨(fun h => nomatch h), ?_⟩
          refine r_nil ?_
          refine w_region ?_
          refine l_pslice rfl rfl ?_
          refine l_v rfl (q_slice rfl el_22 rfl Bnd.none Bnd.none (by first | exact Bnd.nat (by omega) | exact Bnd.mk ⟨by omega, by omega⟩) (by simp)) ?_
          refine l_pslice rfl rfl ?_
          refine l_nil ?_
          refine ⟨by repeat' first | exact Agr.mix _ _ _ | exact Agr.refl _ _ | refine Agr.inner rfl ?_ | refine Agr.upd rfl ?_ | refine Agr.updL' rfl ?_, ?_⟩
          exact ⟨(l2.drop 64).length, (subA a2 1 64 c2, n2 - 64, c2 - 64, l2.drop 64, block8 s2 (l2.take 64)), by simp; omega, ⟨rfl, trivial⟩, rfl, rdin_drop hr2 (by omega), by simp; omega, by omega, by omega, (loopW_big (by omega)).symm.trans hloop2, H⟩
        · try simp only [decide_eq_true_eq, decide_eq_false_iff_not, Bool.not_eq_true', Bool.not_eq_false', beq_iff_eq, beq_eq_false_iff_ne, bne_iff_ne, bne_eq_false_iff_eq, ne_eq, Int.not_lt, Int.not_le] at c4
          refine w_exit ?_
          refine w_region ?_
          refine l_pptr rfl rfl ?_
          refine l_pptr rfl rfl ?_
          refine l_pptr rfl rfl ?_
          refine l_v rfl (q_fieldAddr rfl fo49_1 rfl) ?_
          refine l_v rfl (q_load1 rfl c1_22 rfl (by first | exact H.cell 0 rfl rfl | exact H.cell 1 rfl rfl | exact H.cell 2 rfl rfl | exact H.cell 3 rfl rfl)) ?_
          refine l_pslice rfl rfl ?_
          refine b_append rfl el_22 ze_5 rfl rfl rfl H 2 rfl (ys := l2.map B) (hr2.use H 3 rfl) (by simp <;> omega) (oneB _) ⟨by simp only [List.length_nil]; omega, by simp only [maxLen, List.length_nil]; omega⟩ (fun a95 c95 w H => ?_)
          refine l_pptr rfl rfl ?_
          refine l_v rfl (q_fieldAddr rfl fo49_1 rfl) ?_
          first | refine b_store (cs' := [_, _, _, _, _, _, _, _, _, _, _]) rfl sz_22 rfl rfl rfl rfl rfl H 0 rfl rfl rfl (fun w H => ?_) | refine b_store (cs' := [_, _, _, _, _, _, _, _, _, _, _]) rfl sz_22 rfl rfl rfl rfl rfl H 1 rfl rfl rfl (fun w H => ?_) | refine b_store (cs' := [_, _, _, _, _, _, _, _, _, _, _]) rfl sz_22 rfl rfl rfl rfl rfl H 2 rfl rfl rfl (fun w H => ?_) | refine b_store (cs' := [_, _, _, _, _, _, _, _, _, _, _]) rfl sz_22 rfl rfl rfl rfl rfl H 3 rfl rfl rfl (fun w H => ?_)
          refine l_nil ?_
          refine fin0n ⟨rfl, a95, c95, ?_⟩
          rw [← hloop2, loopW_small (by omega)]
          subst hl2
          have H2 : St W w (blk b [U (s2).a, U (s2).b, U (s2).c, U (s2).d, U (s2).e, U (s2).f, U (s2).g, U (s2).h, .slice a95 (0 + l2.length) c95, .int .i64 (h.n + n), .bool true] 49 :: row 5 1 a95 (0 + l2.length) c95 ([] ++ l2.map B) :: F) := H.erase 0
          rw [Nat.zero_add, List.nil_append] at H2
          exact H2

end Go.Proofs.Ytcmmbjplekgihaa
