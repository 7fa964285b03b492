/- The network's Take, Inject and New, and the library's Delete at packets, do what their contracts say. -/
import Derived.Test.YtmgcmgfjaimlnaaNet3
namespace Go.Proofs.Ytmgcmgfjaimlnaa
open Go.EW
attribute [local irreducible] EW.W EW.L EW.fin
set_option linter.unusedVariables false
set_option linter.unusedSimpArgs false
theorem del_list {xs spare z : List Value} {k m : Nat} (hx : xs.length = m * 3) (hk : k < m) (hz : z.length = 3) :
    (putL (putL (xs ++ spare) (0 + k * 3) (xs.drop ((k + 1) * 3))) (0 + (k + (m - (k + 1))) * 3) z).take (xs.take (k * 3) ++ xs.drop ((k + 1) * 3)).length = xs.take (k * 3) ++ xs.drop ((k + 1) * 3) := by
  have e1 : putL (xs ++ spare) (0 + k * 3) (xs.drop ((k + 1) * 3)) = (xs.take (k * 3) ++ xs.drop ((k + 1) * 3)) ++ (xs ++ spare).drop (0 + k * 3 + (xs.drop ((k + 1) * 3)).length) := by
    rw [putL_eq _ _ _ (by simp only [List.length_drop, List.length_append]; omega), Nat.zero_add, List.take_append_of_le_length (by omega)]
  rw [e1]
  generalize (xs ++ spare).drop (0 + k * 3 + (xs.drop ((k + 1) * 3)).length) = R at e1 ⊢
  have hl : (xs.take (k * 3) ++ xs.drop ((k + 1) * 3)).length = 0 + (k + (m - (k + 1))) * 3 := by simp only [List.length_append, List.length_take, List.length_drop]; omega
  have hl2 := congrArg List.length e1
  rw [length_putL] at hl2
  simp only [List.length_append] at hl2 hl
  rw [putL_eq _ _ _ (by simp only [List.length_append, List.length_drop, List.length_take] at *; omega)]
  rw [← (by simpa only [List.length_append] using hl : (xs.take (k * 3) ++ xs.drop ((k + 1) * 3)).length = 0 + (k + (m - (k + 1))) * 3)]
  rw [List.take_left, List.append_assoc, List.take_left]
theorem Delete_ok {W w : World} {F : List Seg} {a : Option Addr} {m cap : Nat} {xs : List Value} (H : St W w (row 31 3 a m cap xs :: F)) (h1 : ∀ u ∈ xs, u.oneCell' = true) {k : Nat} (hk : k < m) :
    Ok Try.prog 44 [.slice a m cap, .int .i64 (k : Int), .int .i64 ((k + 1 : Nat) : Int)].toArray w (fun v w' => v = .slice a (m - 1) cap ∧ St W w' (row 31 3 a (m - 1) cap (xs.take (k * 3) ++ xs.drop ((k + 1) * 3)) :: F)) := by
  obtain ⟨g, o0, rfl⟩ : ∃ g o0, a = some ⟨g, o0, none⟩ := by
    have h := (H.rowInv (i := 0) rfl)
    obtain ⟨v, hv⟩ : ∃ v, xs[0]? = some v := ⟨_, List.getElem?_eq_getElem (by omega)⟩
    obtain ⟨g, o0, h1, _⟩ := h.2.2.2.2 0 v hv
    exact ⟨g, o0, h1⟩
  obtain ⟨rfl, _, hx, hm, hcap, spare, hsp, H⟩ := H.rowOpen
  refine enter (n := 33) (rs := #[.tmp 6]) Try.func44 rfl rfl rfl rfl ?_
  refine w_seq ?_
  refine w_region ?_
  refine l_pslice rfl rfl ?_
  refine l_nil ?_
  refine w_seq ?_
  refine w_region ?_
  refine l_pslice rfl rfl ?_
  refine l_pint rfl rfl ?_
  refine l_pint rfl rfl ?_
  refine l_pslice rfl rfl ?_
  refine l_v rfl (q_lenSlice rfl el_22 rfl) ?_
  refine l_v rfl (q_slice rfl el_22 rfl (Bnd.nat hm) (Bnd.nat (j := k + 1) (by omega)) (Bnd.nat (by omega)) (by simp)) ?_
  refine l_nil ?_
  refine w_seq ?_
  refine w_seq ?_
  refine w_region ?_
  refine l_pint rfl rfl ?_
  refine l_pint rfl rfl ?_
  refine l_pbool rfl rfl ?_
  refine l_nil ?_
  refine w_cond rfl (fun c1 => ?_) (fun c1 => ?_)
  · try simp only [decide_eq_true_eq, decide_eq_false_iff_not, Bool.not_eq_true', Bool.not_eq_false', beq_iff_eq, beq_eq_false_iff_ne, bne_iff_ne, bne_eq_false_iff_eq, ne_eq, Int.not_lt, Int.not_le] at c1
    refine w_seq ?_
    refine w_region ?_
    refine l_pslice rfl rfl ?_
    refine l_pslice rfl rfl ?_
    refine l_nil ?_
    refine w_ret ?_
    refine fin1 (v := .slice _ _ _) rfl ?_
    exact absurd c1 (by omega)
  try simp only [decide_eq_true_eq, decide_eq_false_iff_not, Bool.not_eq_true', Bool.not_eq_false', beq_iff_eq, beq_eq_false_iff_ne, bne_iff_ne, bne_eq_false_iff_eq, ne_eq, Int.not_lt, Int.not_le] at c1
  have hys : ((xs ++ spare).drop ((k + 1) * 3)).take ((m - (k + 1)) * 3) = xs.drop ((k + 1) * 3) := by
    rw [List.drop_append_of_le_length (by omega), List.take_append_of_le_length (by simp only [List.length_drop]; omega), List.take_of_length_le (by simp only [List.length_drop]; omega)]
  refine w_skip ?_
  refine w_seq ?_
  refine w_region ?_
  refine l_pslice rfl rfl ?_
  refine l_v rfl (q_lenSlice rfl el_22 rfl) ?_
  refine l_pint rfl rfl ?_
  refine l_nil ?_
  refine w_seq ?_
  refine w_drawT [6] [] [(0, 0), (1, 0), (2, 0), (3, 0), (4, 0), (5, 0), (6, 2), (7, 0)] mixed (by kernel_rfl) (fun _ _ _ h => fin_panic h) H (fun H => ?_)
  refine r_pslice rfl rfl rfl ?_
  refine r_pint rfl rfl rfl ?_
  refine r_w rfl rfl (fun w => q_slice rfl el_22 rfl Bnd.none (Bnd.nat (j := k) (by omega)) Bnd.none (by simp)) ?_
  refine r_pslice rfl rfl rfl ?_
  refine r_pint rfl rfl rfl ?_
  refine r_w rfl rfl (fun w => q_slice rfl el_22 rfl Bnd.none Bnd.none (Bnd.nat (j := k + 1) (by omega)) (by simp)) ?_
  refine r_do rfl ?_
  refine b_appendRoom rfl el_22 (show Value.slice (subA (some ⟨g, 0, none⟩) 3 0 cap) (k - 0) (cap - 0) = Value.slice (some ⟨g, 0, none⟩) k cap by rw [subA_zero]; rfl) rfl H 0 rfl (ys := xs.drop ((k + 1) * 3)) (hys ▸ Rd.subA (Rd.mk (H.cells0 0 rfl)) (fun h => .inl (by omega))) (by simp only [List.length_drop]; omega) (fun u hu => h1 u (List.mem_of_mem_drop hu)) ⟨by omega, by simp only [List.length_append]; omega⟩ (fun w H => ?_)
  refine l_nil ⟨(fun h => nomatch h), ?_⟩
  refine r_pslice rfl rfl rfl ?_
  refine r_nil ?_
  refine w_seq ?_
  refine w_region ?_
  refine l_pslice rfl rfl ?_
  refine l_pslice rfl rfl ?_
  refine l_v rfl (q_lenSlice rfl el_22 rfl) ?_
  refine l_pint rfl rfl ?_
  refine l_v rfl (q_slice rfl el_22 rfl Bnd.none (by first | exact Bnd.nat (by omega) | exact Bnd.mk ⟨by omega, by omega⟩) (by first | exact Bnd.nat (by omega) | exact Bnd.mk ⟨by omega, by omega⟩) (by simp)) ?_
  refine b_clear rfl el_22 ze_31 rfl (show Value.slice (subA (some ⟨g, 0, none⟩) 3 (k + (m - (k + 1))) cap) (m - (k + (m - (k + 1)))) (cap - (k + (m - (k + 1)))) = Value.slice (some ⟨g, 0 + (k + (m - (k + 1))) * 3, none⟩) (m - (k + (m - (k + 1)))) (cap - (k + (m - (k + 1)))) by rw [subA_lt (by omega)]) H 0 rfl rfl ⟨by omega, by simp only [length_putL, List.length_append]; omega⟩ (fun w H => ?_)
  refine l_nil ?_
  refine w_seq ?_
  refine w_region ?_
  refine l_pslice rfl rfl ?_
  refine l_pslice rfl rfl ?_
  refine l_nil ?_
  refine w_ret ?_
  refine fin1 (v := .slice _ _ _) rfl ?_
  refine ⟨congrArg (fun x => Value.slice (some ⟨g, 0, none⟩) x cap) (by omega : k + (m - (k + 1)) = m - 1), H.imp fun c hc => row_of_blk0 (xs := xs.take (k * 3) ++ xs.drop ((k + 1) * 3)) hc ?_ (del_list hx hk (by rw [length_repL]; simp only [Value.cells]; show (m - (k + (m - (k + 1)))) * 3 = 3; omega)) ?_ (by omega) hcap⟩
  · simp only [length_putL, List.length_append, hsp]
  simp only [List.length_append, List.length_take, List.length_drop]; omega
theorem pks_one (l : List Pk) : ∀ u ∈ pks l, u.oneCell' = true := by
  intro u hu
  simp only [pks, List.mem_flatMap, Pk.cells] at hu
  obtain ⟨p, _, hp⟩ := hu
  simp only [List.mem_cons, List.not_mem_nil, or_false] at hp
  rcases hp with rfl | rfl | rfl <;> rfl
theorem map_eraseIdx_own {α β : Type} {f : α → β} (l : List α) (k : Nat) : (l.map f).eraseIdx k = (l.eraseIdx k).map f := by
  rw [List.eraseIdx_eq_take_drop_succ, List.eraseIdx_eq_take_drop_succ]; simp [List.map_take, List.map_drop]
def takeS (st : NetS) (k : Int) : NetS := if 0 ≤ k ∧ k < st.pool.length then { st with pool := st.pool.eraseIdx k.toNat } else st
theorem lift8 {W w : World} {b : Nat} {st : NetS} {s t : Seg} {F : List Seg} (H : St W w (t :: netL b st (s :: F))) : St W w (s :: t :: netL b st F) :=
  H.perm (show ([_, _, _, _, _, _, _, _] ++ s :: F).Perm (s :: ([_, _, _, _, _, _, _, _] ++ F)) from List.perm_middle)
theorem take_fin {W w : World} {F : List Seg} {b x1 x2 T1 T2 : Nat} {c1 c2 : List Value} {st : NetS} {q : Pk} {k : Nat} (hk : k < st.pool.length)
    (H : St W w (row 31 3 st.pa (st.pool.length - 1) st.pcap ((pks st.pool).take (k * 3) ++ (pks st.pool).drop ((k + 1) * 3)) :: blk x1 c1 T1 :: q.own :: blk b [.int .i64 st.nodes, .int .i64 st.clients, .slice st.pa (st.pool.length - 1) st.pcap, .slice st.ra st.record.length st.rcap, .map (some st.pm), .map (some st.cm)] 84 ::
      Segs (st.pool.map Pk.own) :: row 31 3 st.ra st.record.length st.rcap (pks st.record) :: Segs (st.record.map Pk.own) :: kmap st.pm st.place :: kmap st.cm st.came :: blk x2 c2 T2 :: F)) :
    St W w (q.own :: netL b (takeS st k) F) := by
  have h1 : ((st.pool[k]?).map Pk.own) = some (st.pool[k].own) := by simp [hk]
  have H1 := Segs.take (l := st.pool.map Pk.own) k (by rw [List.getElem?_map]; exact h1) (H.pick [4, 0, 2, 3, 5, 6, 7, 8] (pre := [_, _, _, _, _, _, _, _, _, _]) rfl rfl)
  have H2 := H1.pick [3, 4, 2, 1, 5, 6, 7, 8] (pre := [_, _, _, _, _, _, _, _, _]) rfl rfl
  have he : takeS st k = { st with pool := st.pool.eraseIdx k } := by unfold takeS; rw [if_pos ⟨by omega, by omega⟩]; simp
  rw [he]
  unfold netL NetS.cells
  simp only [List.length_eraseIdx_of_lt hk, pks_erase, map_eraseIdx_own] at H2 ⊢
  exact H2
theorem Delete_ok' {W w : World} {F : List Seg} {a : Option Addr} {m cap : Nat} {xs : List Value} (H : St W w (row 31 3 a m cap xs :: F)) (h1 : ∀ u ∈ xs, u.oneCell' = true) {k : Nat} (hk : k < m) :
    Ok Try.prog 44 [.slice a m cap, .int .i64 (k : Int), .int .i64 ((k : Int) + 1)].toArray w (fun v w' => v = .slice a (m - 1) cap ∧ St W w' (row 31 3 a (m - 1) cap (xs.take (k * 3) ++ xs.drop ((k + 1) * 3)) :: F)) := by
  have := Delete_ok H h1 hk
  rwa [Int.natCast_succ] at this
theorem Take_ok {W w : World} {F : List Seg} {b : Nat} {st : NetS} (H : St W w (netL b st F)) (hfit : st.fit) (k : Int) :
    Ok Try.prog 14 [.pointer (some ⟨b, 0, none⟩), .int .i64 k].toArray w (fun v w' => ∃ q e, v = .tuple #[pkv q, .int .i64 e] ∧ AtR st.pool k q e ∧ St W w' (q.own :: netL b (takeS st k) F)) := by
  refine enter (n := 33) (rs := #[.cell 4 31, .tmp 5]) Try.func14 rfl rfl rfl rfl ?_
  refine w_seq ?_
  refine w_region ?_
  refine b_alloc rfl ze_31 rfl H (fun b4 w H => ?_)
  refine l_pint rfl rfl ?_
  refine l_nil ?_
  refine w_seq ?_
  refine w_region ?_
  refine l_pptr rfl rfl ?_
  refine l_pint rfl rfl ?_
  refine b_call rfl cb_27 rfl (At_ok (sink7 H) hfit k) (fun v w hv => ?_)
  obtain ⟨q, e, rfl, hat, H⟩ := hv
  refine l_ptup rfl rfl ?_
  refine l_pagg rfl rfl ?_
  refine l_pint rfl rfl ?_
  refine b_alloc rfl ze_31 rfl H (fun b6 w H => ?_)
  first | refine b_store (cs' := [_, _, _]) rfl sz_31 rfl rfl rfl rfl rfl H 0 rfl rfl rfl (fun w H => ?_) | refine b_store (cs' := [_, _, _]) rfl sz_31 rfl rfl rfl rfl rfl H 1 rfl rfl rfl (fun w H => ?_) | refine b_store (cs' := [_, _, _]) rfl sz_31 rfl rfl rfl rfl rfl H 2 rfl rfl rfl (fun w H => ?_) | refine b_store (cs' := [_, _, _]) rfl sz_31 rfl rfl rfl rfl rfl H 3 rfl rfl rfl (fun w H => ?_) | refine b_store (cs' := [_, _, _]) rfl sz_31 rfl rfl rfl rfl rfl H 4 rfl rfl rfl (fun w H => ?_) | refine b_store (cs' := [_, _, _]) rfl sz_31 rfl rfl rfl rfl rfl H 5 rfl rfl rfl (fun w H => ?_) | refine b_store (cs' := [_, _, _]) rfl sz_31 rfl rfl rfl rfl rfl H 6 rfl rfl rfl (fun w H => ?_) | refine b_store (cs' := [_, _, _]) rfl sz_31 rfl rfl rfl rfl rfl H 7 rfl rfl rfl (fun w H => ?_) | refine b_store (cs' := [_, _, _]) rfl sz_31 rfl rfl rfl rfl rfl H 8 rfl rfl rfl (fun w H => ?_) | refine b_store (cs' := [_, _, _]) rfl sz_31 rfl rfl rfl rfl rfl H 9 rfl rfl rfl (fun w H => ?_)
  refine l_pint rfl rfl ?_
  refine l_nil ?_
  refine w_seq ?_
  refine w_seq ?_
  refine w_region ?_
  refine l_pptr rfl rfl ?_
  refine l_v rfl (q_neqNilF rfl pt_24 rfl rfl) ?_
  refine l_pbool rfl rfl ?_
  refine l_pint rfl rfl ?_
  refine l_pbool rfl rfl ?_
  refine l_pickT (v := .bool _) rfl rfl rfl ?_
  refine l_nil ?_
  refine w_cond rfl (fun c1 => ?_) (fun c1 => ?_)
  · try simp only [decide_eq_true_eq, decide_eq_false_iff_not, Bool.not_eq_true', Bool.not_eq_false', beq_iff_eq, beq_eq_false_iff_ne, bne_iff_ne, bne_eq_false_iff_eq, ne_eq, Int.not_lt, Int.not_le] at c1
    obtain ⟨p, hk0, hk, hp, rfl, hq⟩ := hat.resolve_left (fun h => by have := h.2.1; omega)
    obtain ⟨k, rfl⟩ := Int.eq_ofNat_of_zero_le hk0
    have hk : k < st.pool.length := by omega
    have hr1 := (H.rowInv (i := 3) rfl).2.1
    have hr2 := (H.rowInv (i := 3) rfl).2.2.1
    simp only [maxLen] at hr2
    refine w_region ?_
    refine l_pptr rfl rfl ?_
    refine l_pptr rfl rfl ?_
    refine l_pptr rfl rfl ?_
    refine l_v rfl (q_fieldAddr rfl fo84_2 rfl) ?_
    refine l_v rfl (q_load1 rfl c1_22 rfl (by first | exact H.cell 0 rfl rfl | exact H.cell 1 rfl rfl | exact H.cell 2 rfl rfl | exact H.cell 3 rfl rfl | exact H.cell 4 rfl rfl | exact H.cell 5 rfl rfl | exact H.cell 6 rfl rfl | exact H.cell 7 rfl rfl | exact H.cell 8 rfl rfl | exact H.cell 9 rfl rfl)) ?_
    refine l_pint rfl rfl ?_
    refine l_pint rfl rfl ?_
    first | refine l_v rfl (q_add rfl rfl rfl (by simp only [inK]; omega)) ?_ | refine l_pint rfl rfl ?_
    refine b_call rfl cb_44 rfl (Delete_ok' (H.front 3 rfl) (pks_one _) hk) (fun v w hv => ?_)
    obtain ⟨rfl, H⟩ := hv
    refine l_pptr rfl rfl ?_
    refine l_v rfl (q_fieldAddr rfl fo84_2 rfl) ?_
    first | refine b_store rfl sz_22 rfl rfl rfl rfl rfl H 0 rfl rfl rfl (fun w H => ?_) | refine b_store rfl sz_22 rfl rfl rfl rfl rfl H 1 rfl rfl rfl (fun w H => ?_) | refine b_store rfl sz_22 rfl rfl rfl rfl rfl H 2 rfl rfl rfl (fun w H => ?_) | refine b_store rfl sz_22 rfl rfl rfl rfl rfl H 3 rfl rfl rfl (fun w H => ?_) | refine b_store rfl sz_22 rfl rfl rfl rfl rfl H 4 rfl rfl rfl (fun w H => ?_) | refine b_store rfl sz_22 rfl rfl rfl rfl rfl H 5 rfl rfl rfl (fun w H => ?_) | refine b_store rfl sz_22 rfl rfl rfl rfl rfl H 6 rfl rfl rfl (fun w H => ?_) | refine b_store rfl sz_22 rfl rfl rfl rfl rfl H 7 rfl rfl rfl (fun w H => ?_) | refine b_store rfl sz_22 rfl rfl rfl rfl rfl H 8 rfl rfl rfl (fun w H => ?_) | refine b_store rfl sz_22 rfl rfl rfl rfl rfl H 9 rfl rfl rfl (fun w H => ?_)
    refine l_nil ?_
    refine w_seq ?_
    refine w_region ?_
    refine l_v rfl (q_loadN (vs := [_, _, _]) rfl ag_31 rfl rfl (by first | exact H.cells 0 rfl | exact H.cells 1 rfl | exact H.cells 2 rfl | exact H.cells 3 rfl | exact H.cells 4 rfl | exact H.cells 5 rfl | exact H.cells 6 rfl | exact H.cells 7 rfl | exact H.cells 8 rfl | exact H.cells 9 rfl)) ?_
    refine l_pint rfl rfl ?_
    first | refine b_store (cs' := [_, _, _]) rfl sz_31 rfl rfl rfl rfl rfl H 0 rfl rfl rfl (fun w H => ?_) | refine b_store (cs' := [_, _, _]) rfl sz_31 rfl rfl rfl rfl rfl H 1 rfl rfl rfl (fun w H => ?_) | refine b_store (cs' := [_, _, _]) rfl sz_31 rfl rfl rfl rfl rfl H 2 rfl rfl rfl (fun w H => ?_) | refine b_store (cs' := [_, _, _]) rfl sz_31 rfl rfl rfl rfl rfl H 3 rfl rfl rfl (fun w H => ?_) | refine b_store (cs' := [_, _, _]) rfl sz_31 rfl rfl rfl rfl rfl H 4 rfl rfl rfl (fun w H => ?_) | refine b_store (cs' := [_, _, _]) rfl sz_31 rfl rfl rfl rfl rfl H 5 rfl rfl rfl (fun w H => ?_) | refine b_store (cs' := [_, _, _]) rfl sz_31 rfl rfl rfl rfl rfl H 6 rfl rfl rfl (fun w H => ?_) | refine b_store (cs' := [_, _, _]) rfl sz_31 rfl rfl rfl rfl rfl H 7 rfl rfl rfl (fun w H => ?_) | refine b_store (cs' := [_, _, _]) rfl sz_31 rfl rfl rfl rfl rfl H 8 rfl rfl rfl (fun w H => ?_) | refine b_store (cs' := [_, _, _]) rfl sz_31 rfl rfl rfl rfl rfl H 9 rfl rfl rfl (fun w H => ?_)
    refine l_pint rfl rfl ?_
    refine l_nil ?_
    refine w_ret ?_
    refine finc2 rfl ag_31 rfl (by first | exact H.cells 0 rfl | exact H.cells 1 rfl | exact H.cells 2 rfl | exact H.cells 3 rfl | exact H.cells 4 rfl | exact H.cells 5 rfl | exact H.cells 6 rfl | exact H.cells 7 rfl | exact H.cells 8 rfl | exact H.cells 9 rfl) rfl ?_
    refine ⟨q, 0, rfl, .inr ⟨p, hk0, by omega, hp, rfl, hq⟩, ?_⟩
    exact take_fin hk H
  try simp only [decide_eq_true_eq, decide_eq_false_iff_not, Bool.not_eq_true', Bool.not_eq_false', beq_iff_eq, beq_eq_false_iff_ne, bne_iff_ne, bne_eq_false_iff_eq, ne_eq, Int.not_lt, Int.not_le] at c1
  refine w_skip ?_
  refine w_seq ?_
  refine w_region ?_
  refine l_v rfl (q_loadN (vs := [_, _, _]) rfl ag_31 rfl rfl (by first | exact H.cells 0 rfl | exact H.cells 1 rfl | exact H.cells 2 rfl | exact H.cells 3 rfl | exact H.cells 4 rfl | exact H.cells 5 rfl | exact H.cells 6 rfl | exact H.cells 7 rfl | exact H.cells 8 rfl | exact H.cells 9 rfl)) ?_
  refine l_pint rfl rfl ?_
  first | refine b_store (cs' := [_, _, _]) rfl sz_31 rfl rfl rfl rfl rfl H 0 rfl rfl rfl (fun w H => ?_) | refine b_store (cs' := [_, _, _]) rfl sz_31 rfl rfl rfl rfl rfl H 1 rfl rfl rfl (fun w H => ?_) | refine b_store (cs' := [_, _, _]) rfl sz_31 rfl rfl rfl rfl rfl H 2 rfl rfl rfl (fun w H => ?_) | refine b_store (cs' := [_, _, _]) rfl sz_31 rfl rfl rfl rfl rfl H 3 rfl rfl rfl (fun w H => ?_) | refine b_store (cs' := [_, _, _]) rfl sz_31 rfl rfl rfl rfl rfl H 4 rfl rfl rfl (fun w H => ?_) | refine b_store (cs' := [_, _, _]) rfl sz_31 rfl rfl rfl rfl rfl H 5 rfl rfl rfl (fun w H => ?_) | refine b_store (cs' := [_, _, _]) rfl sz_31 rfl rfl rfl rfl rfl H 6 rfl rfl rfl (fun w H => ?_) | refine b_store (cs' := [_, _, _]) rfl sz_31 rfl rfl rfl rfl rfl H 7 rfl rfl rfl (fun w H => ?_) | refine b_store (cs' := [_, _, _]) rfl sz_31 rfl rfl rfl rfl rfl H 8 rfl rfl rfl (fun w H => ?_) | refine b_store (cs' := [_, _, _]) rfl sz_31 rfl rfl rfl rfl rfl H 9 rfl rfl rfl (fun w H => ?_)
  refine l_pint rfl rfl ?_
  refine l_nil ?_
  refine w_ret ?_
  refine finc2 rfl ag_31 rfl (by first | exact H.cells 0 rfl | exact H.cells 1 rfl | exact H.cells 2 rfl | exact H.cells 3 rfl | exact H.cells 4 rfl | exact H.cells 5 rfl | exact H.cells 6 rfl | exact H.cells 7 rfl | exact H.cells 8 rfl | exact H.cells 9 rfl) rfl ?_
  refine ⟨q, e, rfl, hat, ?_⟩
  have : takeS st k = st := by
    unfold takeS; rw [if_neg]
    rcases hat with h | ⟨p, _, _, _, h, _⟩
    · exact h.1
    exact absurd h c1
  rw [this]
  exact (lift8 (H.erase 0)).erase 0
theorem Inject_ok {W w : World} {F : List Seg} {b : Nat} {st : NetS} (H : St W w (netL b st F)) (hfit : st.fit) (fr to : Int) {a : Option Addr} {n cap : Nat} {bs : List UInt8} (hr : RdIn W F a (bs.map B)) (hl : bs.length = n) (hroom : (st.pool.length + 1) * 40 ≤ 211106232532992) :
    Ok Try.prog 31 [.pointer (some ⟨b, 0, none⟩), .agg #[.int .i64 fr, .int .i64 to, .slice a n cap]].toArray w (fun v w' => v = .int .i64 (layE st fr to n false) ∧
      ((layE st fr to n false ≠ 0 ∧ St W w' (netL b st F)) ∨ (layE st fr to n false = 0 ∧ ∃ a' pa pcap, St W w' (netL b { st with pa, pcap, pool := st.pool ++ [⟨fr, to, a', n, n, bs⟩] } F)))) := by
  refine enter (n := 10) (rs := #[.tmp 4]) Try.func31 rfl rfl rfl rfl ?_
  refine w_seq ?_
  refine w_region ?_
  refine b_box rfl rfl rfl H (fun b3 w H => ?_)
  refine l_pint rfl rfl ?_
  refine l_nil ?_
  refine w_seq ?_
  refine w_seq ?_
  refine w_region ?_
  refine l_pptr rfl rfl ?_
  refine l_v rfl (q_eqlNilF rfl pt_24 rfl rfl) ?_
  refine l_nil ?_
  refine w_cond_f rfl ?_
  refine w_skip ?_
  refine w_seq ?_
  refine w_region ?_
  refine l_pptr rfl rfl ?_
  refine l_v rfl (q_loadN (vs := [_, _, _]) rfl ag_31 rfl rfl (by first | exact H.cells 0 rfl | exact H.cells 1 rfl | exact H.cells 2 rfl | exact H.cells 3 rfl | exact H.cells 4 rfl | exact H.cells 5 rfl | exact H.cells 6 rfl | exact H.cells 7 rfl | exact H.cells 8 rfl | exact H.cells 9 rfl)) ?_
  refine b_call rfl cb_46 rfl (lay_ok (sink7 H) hfit fr to (hr.up 1 rfl) hl hroom false) (fun v w hv => ?_)
  obtain ⟨rfl, hv⟩ := hv
  refine l_pint rfl rfl ?_
  refine l_nil ?_
  refine w_ret ?_
  refine fin1 (v := .int _ _) rfl ?_
  refine ⟨rfl, hv.imp (fun h => ⟨h.1, (lift7 h.2).erase 0⟩) (fun ⟨h, a', pa, pcap, H⟩ => ⟨h, a', pa, pcap, (lift7 H).erase 0⟩)⟩
def newS (nodes clients : Int) (pm cm : Nat) : NetS := ⟨nodes, clients, none, 0, [], none, 0, [], pm, cm, [], []⟩
theorem new_fin {W w : World} {F : List Seg} {b pm cm : Nat} {nodes clients : Int}
    (H : St W w (blk b [.int .i64 nodes, .int .i64 clients, .slice none 0 0, .slice none 0 0, .map (some pm), .map (some cm)] 84 :: kmap cm [] :: kmap pm [] :: F)) : St W w (netL b (newS nodes clients pm cm) F) := by
  have H := St.newRow (T := 31) (sz := 3) (St.newRow (T := 31) (sz := 3) (St.nilseg.2 (St.nilseg.2 H)))
  exact H.pick [4, 0, 2, 1, 3, 6, 5] (pre := [_, _, _, _, _, _, _]) rfl rfl
theorem New_ok {W w : World} {F : List Seg} (H : St W w F) (nodes clients : Int) :
    Ok Try.prog 34 [.int .i64 nodes, .int .i64 clients].toArray w (fun v w' => (¬ (1 ≤ nodes ∧ nodes ≤ 7 ∧ 0 ≤ clients ∧ clients ≤ 16) ∧ v = .tuple #[.pointer none, .int .i64 3] ∧ St W w' F) ∨ ((1 ≤ nodes ∧ nodes ≤ 7 ∧ 0 ≤ clients ∧ clients ≤ 16) ∧ ∃ b pm cm, v = .tuple #[.pointer (some ⟨b, 0, none⟩), .int .i64 0] ∧ St W w' (netL b (newS nodes clients pm cm) F))) := by
  refine enter (n := 26) (rs := #[.tmp 4, .tmp 5]) Try.func34 rfl rfl rfl rfl ?_
  refine w_seq ?_
  refine w_region ?_
  refine l_pptr rfl rfl ?_
  refine l_pint rfl rfl ?_
  refine l_nil ?_
  refine w_seq ?_
  refine w_seq ?_
  refine w_region ?_
  refine l_pint rfl rfl ?_
  refine l_pbool rfl rfl ?_
  refine l_pbool rfl rfl ?_
  refine l_split 8 rfl (fun h8 => ?_) (fun h8 => ?_)
  · try simp only [decide_eq_true_eq, decide_eq_false_iff_not, Bool.not_eq_true', Bool.not_eq_false', beq_iff_eq, beq_eq_false_iff_ne, bne_iff_ne, bne_eq_false_iff_eq, ne_eq, Int.not_lt, Int.not_le] at h8
    refine l_no rfl ?_
    refine l_no rfl ?_
    refine l_pickT (v := .bool _) rfl rfl rfl ?_
    refine l_pbool rfl rfl ?_
    refine l_no rfl ?_
    refine l_no rfl ?_
    refine l_pickT (v := .bool _) rfl rfl rfl ?_
    refine l_pbool rfl rfl ?_
    refine l_no rfl ?_
    refine l_no rfl ?_
    refine l_pickT (v := .bool _) rfl rfl rfl ?_
    refine l_nil ?_
    refine w_cond_t rfl ?_
    refine w_seq ?_
    refine w_region ?_
    refine l_pptr rfl rfl ?_
    refine l_pint rfl rfl ?_
    refine l_nil ?_
    refine w_ret ?_
    refine fin2 rfl rfl ?_
    exact .inl ⟨by omega, rfl, H⟩
  try simp only [decide_eq_true_eq, decide_eq_false_iff_not, Bool.not_eq_true', Bool.not_eq_false', beq_iff_eq, beq_eq_false_iff_ne, bne_iff_ne, bne_eq_false_iff_eq, ne_eq, Int.not_lt, Int.not_le] at h8
  refine l_pint rfl rfl ?_
  refine l_pbool rfl rfl ?_
  refine l_pickF (v := .bool _) rfl rfl rfl ?_
  refine l_pbool rfl rfl ?_
  refine l_split 12 rfl (fun h12 => ?_) (fun h12 => ?_)
  · try simp only [decide_eq_true_eq, decide_eq_false_iff_not, Bool.not_eq_true', Bool.not_eq_false', beq_iff_eq, beq_eq_false_iff_ne, bne_iff_ne, bne_eq_false_iff_eq, ne_eq, Int.not_lt, Int.not_le] at h12
    refine l_no rfl ?_
    refine l_no rfl ?_
    refine l_pickT (v := .bool _) rfl rfl rfl ?_
    refine l_pbool rfl rfl ?_
    refine l_no rfl ?_
    refine l_no rfl ?_
    refine l_pickT (v := .bool _) rfl rfl rfl ?_
    refine l_nil ?_
    refine w_cond_t rfl ?_
    refine w_seq ?_
    refine w_region ?_
    refine l_pptr rfl rfl ?_
    refine l_pint rfl rfl ?_
    refine l_nil ?_
    refine w_ret ?_
    refine fin2 rfl rfl ?_
    exact .inl ⟨by omega, rfl, H⟩
  try simp only [decide_eq_true_eq, decide_eq_false_iff_not, Bool.not_eq_true', Bool.not_eq_false', beq_iff_eq, beq_eq_false_iff_ne, bne_iff_ne, bne_eq_false_iff_eq, ne_eq, Int.not_lt, Int.not_le] at h12
  refine l_pint rfl rfl ?_
  refine l_pbool rfl rfl ?_
  refine l_pickF (v := .bool _) rfl rfl rfl ?_
  refine l_pbool rfl rfl ?_
  refine l_split 16 rfl (fun h16 => ?_) (fun h16 => ?_)
  · try simp only [decide_eq_true_eq, decide_eq_false_iff_not, Bool.not_eq_true', Bool.not_eq_false', beq_iff_eq, beq_eq_false_iff_ne, bne_iff_ne, bne_eq_false_iff_eq, ne_eq, Int.not_lt, Int.not_le] at h16
    refine l_no rfl ?_
    refine l_no rfl ?_
    refine l_pickT (v := .bool _) rfl rfl rfl ?_
    refine l_nil ?_
    refine w_cond_t rfl ?_
    refine w_seq ?_
    refine w_region ?_
    refine l_pptr rfl rfl ?_
    refine l_pint rfl rfl ?_
    refine l_nil ?_
    refine w_ret ?_
    refine fin2 rfl rfl ?_
    exact .inl ⟨by omega, rfl, H⟩
  try simp only [decide_eq_true_eq, decide_eq_false_iff_not, Bool.not_eq_true', Bool.not_eq_false', beq_iff_eq, beq_eq_false_iff_ne, bne_iff_ne, bne_eq_false_iff_eq, ne_eq, Int.not_lt, Int.not_le] at h16
  refine l_pint rfl rfl ?_
  refine l_pbool rfl rfl ?_
  refine l_pickF (v := .bool _) rfl rfl rfl ?_
  refine l_nil ?_
  refine w_cond rfl (fun c1 => ?_) (fun c1 => ?_)
  · try simp only [decide_eq_true_eq, decide_eq_false_iff_not, Bool.not_eq_true', Bool.not_eq_false', beq_iff_eq, beq_eq_false_iff_ne, bne_iff_ne, bne_eq_false_iff_eq, ne_eq, Int.not_lt, Int.not_le] at c1
    refine w_seq ?_
    refine w_region ?_
    refine l_pptr rfl rfl ?_
    refine l_pint rfl rfl ?_
    refine l_nil ?_
    refine w_ret ?_
    refine fin2 rfl rfl ?_
    exact .inl ⟨by omega, rfl, H⟩
  try simp only [decide_eq_true_eq, decide_eq_false_iff_not, Bool.not_eq_true', Bool.not_eq_false', beq_iff_eq, beq_eq_false_iff_ne, bne_iff_ne, bne_eq_false_iff_eq, ne_eq, Int.not_lt, Int.not_le] at c1
  refine w_skip ?_
  refine w_seq ?_
  refine w_region ?_
  refine l_pint rfl rfl ?_
  refine l_pint rfl rfl ?_
  refine b_makeMap rfl H (fun b22 w H => ?_)
  refine b_makeMap rfl H (fun b23 w H => ?_)
  refine l_v rfl (q_build (cs := [.int _ _, .int _ _, .slice _ _ _, .slice _ _ _, .map _, .map _]) rfl sp_84 rfl) ?_
  refine b_box rfl rfl rfl H (fun b25 w H => ?_)
  refine l_pptr rfl rfl ?_
  refine l_pint rfl rfl ?_
  refine l_nil ?_
  refine w_ret ?_
  refine fin2 rfl rfl ?_
  exact .inr ⟨⟨by omega, by omega, by omega, by omega⟩, b25, b22, b23, rfl, new_fin H⟩
end Go.Proofs.Ytmgcmgfjaimlnaa
