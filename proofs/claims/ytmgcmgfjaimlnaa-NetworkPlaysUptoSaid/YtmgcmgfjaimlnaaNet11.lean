/- The network's Swap and Turn, and the helper SamePackets, do what their contracts say. -/
import Derived.Test.YtmgcmgfjaimlnaaNet10
namespace Go.Proofs.Ytmgcmgfjaimlnaa
open Go.EW
attribute [local irreducible] EW.W EW.L EW.fin
set_option linter.unusedVariables false
set_option linter.unusedSimpArgs false
theorem putL_pks {l : List Pk} {spare : List Value} {i : Nat} {p : Pk} (hi : i < l.length) : putL (pks l ++ spare) (0 + i * 3) p.cells = pks (l.set i p) ++ spare := by
  have hl := pks_length l
  rw [putL_eq _ _ _ (by simp only [Pk.cells, List.length_append, List.length_cons, List.length_nil]; omega), Nat.zero_add]
  have e : l.set i p = l.take i ++ p :: l.drop (i + 1) := by rw [List.set_eq_take_append_cons_drop, if_pos hi]
  rw [e, pks_append, show pks (p :: l.drop (i + 1)) = p.cells ++ pks (l.drop (i + 1)) by simp [pks], pks_take, pks_drop]
  rw [List.take_append_of_le_length (by omega), List.drop_append_of_le_length (by simp only [Pk.cells, List.length_cons, List.length_nil]; omega)]
  rw [show i * 3 + p.cells.length = (i + 1) * 3 by simp only [Pk.cells, List.length_cons, List.length_nil]; omega]
  simp only [List.append_assoc]
theorem rowOpenA {W w : World} {S : List Seg} {T sz : Nat} {a : Option Addr} {b k m cap : Nat} {xs : List Value} (ha : a = some ⟨b, k, none⟩) (H : St W w (row T sz a m cap xs :: S)) :
    k = 0 ∧ xs.length = m * sz ∧ m ≤ cap ∧ cap ≤ maxLen ∧ ∃ spare, xs.length + spare.length = cap * sz ∧ St W w (blk0 b (xs ++ spare) T :: S) := by
  subst ha
  obtain ⟨h1, _, h2, h3, h4, h5⟩ := H.rowOpen
  exact ⟨h1, h2, h3, h4, h5⟩
theorem segs_perm {W w : World} {S : List Seg} {l l' : List Seg} (hp : l.Perm l') (H : St W w (Segs l :: S)) : St W w (Segs l' :: S) := St.segs.2 ((St.segs.1 H).perm (hp.append_right S))
def swapL (l : List Pk) (i k : Nat) : List Pk := match l[i]?, l[k]? with
  | some p, some q => (l.set i q).set k p
  | _, _ => l
def swapS (st : NetS) (i k : Int) : NetS := if (0 ≤ i ∧ i < st.pool.length) ∧ 0 ≤ k ∧ k < st.pool.length then { st with pool := swapL st.pool i.toNat k.toNat } else st
theorem swapL_perm (l : List Pk) (i k : Nat) : (swapL l i k).Perm l := by
  unfold swapL
  split
  · rename_i p q hp hq
    obtain ⟨h1, rfl⟩ := List.getElem?_eq_some_iff.1 hp
    obtain ⟨h2, rfl⟩ := List.getElem?_eq_some_iff.1 hq
    exact List.set_set_perm h1 h2
  exact List.Perm.refl _
theorem swapL_length (l : List Pk) (i k : Nat) : (swapL l i k).length = l.length := (swapL_perm l i k).length_eq
theorem swap_fin {W w : World} {F : List Seg} {b b0 : Nat} {st : NetS} {p q : Pk} {i k : Nat} {spare : List Value} (hpa : st.pa = some ⟨b0, 0, none⟩) (hp : st.pool[i]? = some p) (hq : st.pool[k]? = some q)
    (hl : (pks st.pool).length + spare.length = st.pcap * 3) (hm : st.pool.length ≤ st.pcap) (hc : st.pcap ≤ maxLen)
    (H : St W w (blk0 b0 (putL (putL (pks st.pool ++ spare) (0 + i * 3) q.cells) (0 + k * 3) p.cells) 31 :: blk b st.cells 84 ::
      Segs (st.pool.map Pk.own) :: row 31 3 st.ra st.record.length st.rcap (pks st.record) :: Segs (st.record.map Pk.own) :: kmap st.pm st.place :: kmap st.cm st.came :: F)) :
    St W w (netL b (swapS st i k) F) := by
  have hi := (List.getElem?_eq_some_iff.1 hp).1
  have hk := (List.getElem?_eq_some_iff.1 hq).1
  have he : swapS st i k = { st with pool := swapL st.pool i k } := by unfold swapS; rw [if_pos (by omega)]; simp
  have hs : swapL st.pool i k = (st.pool.set i q).set k p := by unfold swapL; rw [hp, hq]
  rw [putL_pks hi, putL_pks (by simpa using hk), ← hs] at H
  have hl2 := swapL_length st.pool i k
  have H1 := St.rowShut (m := st.pool.length) (cap := st.pcap) (sz := 3) H (by rw [pks_length, hl2]; rw [pks_length] at hl; exact hl) (by rw [pks_length, hl2]) hm hc
  have H2 := segs_perm ((swapL_perm st.pool i k).symm.map Pk.own) (H1.pick [2, 0, 1, 3, 4, 5, 6] (pre := [_, _, _, _, _, _, _]) rfl rfl)
  have H3 := H2.pick [2, 1, 0, 3, 4, 5, 6] (pre := [_, _, _, _, _, _, _]) rfl rfl
  rw [he]
  unfold netL NetS.cells
  unfold NetS.cells at H3
  simp only [hl2, hpa] at H3 ⊢
  exact H3
theorem Swap_ok {W w : World} {F : List Seg} {b : Nat} {st : NetS} (H : St W w (netL b st F)) (i k : Int) :
    Ok Try.prog 23 [.pointer (some ⟨b, 0, none⟩), .int .i64 i, .int .i64 k].toArray w (fun v w' => v = .int .i64 (if (0 ≤ i ∧ i < st.pool.length) ∧ 0 ≤ k ∧ k < st.pool.length then 0 else 141) ∧ St W w' (netL b (swapS st i k) F)) := by
  refine enter (n := 45) (rs := #[.tmp 6]) Try.func23 rfl rfl rfl rfl ?_
  refine w_seq ?_
  refine w_region ?_
  refine l_pint rfl rfl ?_
  refine l_nil ?_
  refine w_seq ?_
  refine w_seq ?_
  refine w_region ?_
  refine l_pptr rfl rfl ?_
  refine l_v rfl (q_eqlNilF rfl pt_24 rfl rfl) ?_
  refine l_nil ?_
  refine w_cond_f rfl ?_
  refine w_skip ?_
  refine w_seq ?_
  refine w_seq ?_
  refine w_region ?_
  refine l_pptr rfl rfl ?_
  refine l_pint rfl rfl ?_
  refine b_call rfl cb_50 rfl (there_ok (i := 0) H rfl rfl i) (fun v w hv => ?_)
  obtain ⟨rfl, rfl⟩ := hv
  refine l_pbool rfl rfl ?_
  refine l_pbool rfl rfl ?_
  refine l_split 13 rfl (fun h13 => ?_) (fun h13 => ?_)
  · try simp only [decide_eq_true_eq, decide_eq_false_iff_not, Bool.not_eq_true', Bool.not_eq_false', beq_iff_eq, beq_eq_false_iff_ne, bne_iff_ne, bne_eq_false_iff_eq, ne_eq, Int.not_lt, Int.not_le] at h13
    refine l_no rfl ?_
    refine l_no rfl ?_
    refine l_no rfl ?_
    refine l_no rfl ?_
    refine l_pickT (v := .bool _) rfl rfl rfl ?_
    refine l_nil ?_
    refine w_cond_t rfl ?_
    refine w_seq ?_
    refine w_region ?_
    refine l_pint rfl rfl ?_
    refine l_nil ?_
    refine w_ret ?_
    refine fin1 (v := .int _ _) rfl ?_
    exact ⟨by rw [if_neg (fun h => by simp at h13; omega)], by unfold swapS; rw [if_neg (fun h => by simp at h13; omega)]; exact H⟩
  try simp only [decide_eq_true_eq, decide_eq_false_iff_not, Bool.not_eq_true', Bool.not_eq_false', beq_iff_eq, beq_eq_false_iff_ne, bne_iff_ne, bne_eq_false_iff_eq, ne_eq, Int.not_lt, Int.not_le] at h13
  refine l_pptr rfl rfl ?_
  refine l_pint rfl rfl ?_
  refine b_call rfl cb_50 rfl (there_ok (i := 0) H rfl rfl k) (fun v w hv => ?_)
  obtain ⟨rfl, rfl⟩ := hv
  refine l_pbool rfl rfl ?_
  refine l_pickF (v := .bool _) rfl rfl rfl ?_
  refine l_nil ?_
  refine w_cond rfl (fun c1 => ?_) (fun c1 => ?_)
  · try simp only [decide_eq_true_eq, decide_eq_false_iff_not, Bool.not_eq_true', Bool.not_eq_false', beq_iff_eq, beq_eq_false_iff_ne, bne_iff_ne, bne_eq_false_iff_eq, ne_eq, Int.not_lt, Int.not_le] at c1
    refine w_seq ?_
    refine w_region ?_
    refine l_pint rfl rfl ?_
    refine l_nil ?_
    refine w_ret ?_
    refine fin1 (v := .int _ _) rfl ?_
    exact ⟨by rw [if_neg (fun h => by simp at c1; omega)], by unfold swapS; rw [if_neg (fun h => by simp at c1; omega)]; exact H⟩
  try simp only [decide_eq_true_eq, decide_eq_false_iff_not, Bool.not_eq_true', Bool.not_eq_false', beq_iff_eq, beq_eq_false_iff_ne, bne_iff_ne, bne_eq_false_iff_eq, ne_eq, Int.not_lt, Int.not_le] at c1
  have hi : 0 ≤ i ∧ i < (st.pool.length : Int) := by simpa using h13
  have hk : 0 ≤ k ∧ k < (st.pool.length : Int) := by simpa using c1
  obtain ⟨i, rfl⟩ := Int.eq_ofNat_of_zero_le hi.1
  obtain ⟨k, rfl⟩ := Int.eq_ofNat_of_zero_le hk.1
  obtain ⟨p, hp⟩ : ∃ p, st.pool[i]? = some p := ⟨_, List.getElem?_eq_getElem (by omega)⟩
  obtain ⟨q, hq⟩ : ∃ q, st.pool[k]? = some q := ⟨_, List.getElem?_eq_getElem (by omega)⟩
  obtain ⟨b0, o0, hpa, _⟩ := pk_cells (H.rowInv (i := 1) rfl).2.2.2.2 hp
  have hif : (if (0 ≤ (i : Int) ∧ (i : Int) < st.pool.length) ∧ 0 ≤ (k : Int) ∧ (k : Int) < st.pool.length then (0 : Int) else 141) = 0 := if_pos ⟨hi, hk⟩
  refine w_skip ?_
  refine w_seq ?_
  refine w_drawT [25, 27] [3, 8, 13, 16, 20, 23] [(0, 0), (1, 0), (2, 0), (3, 1), (4, 0), (5, 0), (6, 0), (7, 0), (8, 1), (9, 0), (10, 0), (11, 0), (12, 0), (13, 1), (14, 0), (15, 0), (16, 1), (17, 0), (18, 0), (19, 0), (20, 1), (21, 0), (22, 0), (23, 1), (24, 0), (25, 2), (26, 0), (27, 2)] mixed (by kernel_rfl) (fun _ _ _ h => fin_panic h) H (fun H => ?_)
  refine r_pptr rfl rfl rfl ?_
  refine r_pptr rfl rfl rfl ?_
  refine r_w rfl rfl (fun w => q_fieldAddr rfl fo84_2 rfl) ?_
  refine r_v rfl rfl (fun w hS => q_load1 rfl c1_22 rfl (by first | exact hS.cell 0 rfl rfl | exact hS.cell 1 rfl rfl | exact hS.cell 2 rfl rfl | exact hS.cell 3 rfl rfl | exact hS.cell 4 rfl rfl | exact hS.cell 5 rfl rfl | exact hS.cell 6 rfl rfl | exact hS.cell 7 rfl rfl | exact hS.cell 8 rfl rfl | exact hS.cell 9 rfl rfl)) ?_
  refine r_pint rfl rfl rfl ?_
  refine r_pptr rfl rfl rfl ?_
  refine r_pptr rfl rfl rfl ?_
  refine r_w rfl rfl (fun w => q_fieldAddr rfl fo84_2 rfl) ?_
  refine r_v rfl rfl (fun w hS => q_load1 rfl c1_22 rfl (by first | exact hS.cell 0 rfl rfl | exact hS.cell 1 rfl rfl | exact hS.cell 2 rfl rfl | exact hS.cell 3 rfl rfl | exact hS.cell 4 rfl rfl | exact hS.cell 5 rfl rfl | exact hS.cell 6 rfl rfl | exact hS.cell 7 rfl rfl | exact hS.cell 8 rfl rfl | exact hS.cell 9 rfl rfl)) ?_
  refine r_pint rfl rfl rfl ?_
  refine r_pptr rfl rfl rfl ?_
  refine r_pptr rfl rfl rfl ?_
  refine r_w rfl rfl (fun w => q_fieldAddr rfl fo84_2 rfl) ?_
  refine r_v rfl rfl (fun w hS => q_load1 rfl c1_22 rfl (by first | exact hS.cell 0 rfl rfl | exact hS.cell 1 rfl rfl | exact hS.cell 2 rfl rfl | exact hS.cell 3 rfl rfl | exact hS.cell 4 rfl rfl | exact hS.cell 5 rfl rfl | exact hS.cell 6 rfl rfl | exact hS.cell 7 rfl rfl | exact hS.cell 8 rfl rfl | exact hS.cell 9 rfl rfl)) ?_
  refine r_pint rfl rfl rfl ?_
  refine r_w rfl rfl (fun w => q_indexSliceA rfl el_22 rfl hpa rfl (by omega)) ?_
  refine r_v rfl rfl (fun w hS => q_loadN (vs := [_, _, _]) rfl ag_31 rfl rfl (pk_cellsA hpa (hS.rowInv (i := 1) rfl).2.2.2.2 hq)) ?_
  refine r_pptr rfl rfl rfl ?_
  refine r_pptr rfl rfl rfl ?_
  refine r_w rfl rfl (fun w => q_fieldAddr rfl fo84_2 rfl) ?_
  refine r_v rfl rfl (fun w hS => q_load1 rfl c1_22 rfl (by first | exact hS.cell 0 rfl rfl | exact hS.cell 1 rfl rfl | exact hS.cell 2 rfl rfl | exact hS.cell 3 rfl rfl | exact hS.cell 4 rfl rfl | exact hS.cell 5 rfl rfl | exact hS.cell 6 rfl rfl | exact hS.cell 7 rfl rfl | exact hS.cell 8 rfl rfl | exact hS.cell 9 rfl rfl)) ?_
  refine r_pint rfl rfl rfl ?_
  refine r_w rfl rfl (fun w => q_indexSliceA rfl el_22 rfl hpa rfl (by omega)) ?_
  refine r_v rfl rfl (fun w hS => q_loadN (vs := [_, _, _]) rfl ag_31 rfl rfl (pk_cellsA hpa (hS.rowInv (i := 1) rfl).2.2.2.2 hp)) ?_
  refine r_w rfl rfl (fun w => q_indexSliceA rfl el_22 rfl hpa rfl (by omega)) ?_
  refine r_do rfl ?_
  obtain ⟨rfl, hxl, hm, hcap, spare, hsp, H⟩ := rowOpenA hpa (H.front 1 rfl)
  refine b_store0 (vs := [_, _, _]) rfl sz_31 rfl rfl rfl rfl rfl H 0 rfl (by simp only [length_putL, List.length_append, List.length_cons, List.length_nil, hxl]; omega) (fun w H => ?_)
  refine l_nil ⟨(fun h => nomatch h), ?_⟩
  refine r_w rfl rfl (fun w => q_indexSliceA rfl el_22 rfl hpa rfl (by omega)) ?_
  refine r_do rfl ?_
  refine b_store0 (vs := [_, _, _]) rfl sz_31 rfl rfl rfl rfl rfl H 0 rfl (by simp only [length_putL, List.length_append, List.length_cons, List.length_nil, hxl]; omega) (fun w H => ?_)
  refine l_nil ⟨(fun h => nomatch h), ?_⟩
  refine r_nil ?_
  refine w_seq ?_
  refine w_region ?_
  refine l_pint rfl rfl ?_
  refine l_nil ?_
  refine w_ret ?_
  refine fin1 (v := .int _ _) rfl ?_
  exact ⟨by rw [hif], swap_fin hpa hp hq hsp hm hcap H⟩
theorem xor_B (u m : UInt8) : bitI .xor .u8 (u.toNat : Int) (m.toNat : Int) = ((u ^^^ m).toNat : Int) := by
  have h1 : ∀ x : UInt8, BitVec.ofInt 8 (x.toNat : Int) = x.toBitVec := by
    intro x
    apply BitVec.eq_of_toNat_eq
    have := x.toNat_lt
    simp only [BitVec.toNat_ofInt]
    rw [show ((x.toNat : Int) % ((2 ^ 8 : Nat) : Int)).toNat = x.toNat by omega]
    rfl
  have h : (BitVec.ofInt 8 (u.toNat : Int) ^^^ BitVec.ofInt 8 (m.toNat : Int)).toNat = (u ^^^ m).toNat := by
    rw [h1, h1]; rfl
  show IntKind.wrap .u8 (((BitVec.ofInt 8 (u.toNat : Int) ^^^ BitVec.ofInt 8 (m.toNat : Int)).toNat : Nat) : Int) = _
  rw [h]
  have key : ∀ t : Nat, t < 256 → IntKind.wrap .u8 (t : Int) = t := by
    intro t ht
    simp only [IntKind.wrap, IntKind.signed, IntKind.bits]
    simp
    omega
  exact key _ (u ^^^ m).toNat_lt
theorem pks_set_same : ∀ {l : List Pk} {k : Nat} {p q : Pk}, l[k]? = some p → q.cells = p.cells → pks (l.set k q) = pks l
  | a :: l, 0, p, q, h, e => by
    obtain rfl : a = p := by simpa using h
    simp [pks, e]
  | a :: l, k+1, p, q, h, e => by
    have := pks_set_same (l := l) (k := k) (by simpa using h) e
    simp only [pks, List.set_cons_succ, List.flatMap_cons] at this ⊢
    rw [this]
  | [], k, p, q, h, e => by simp at h
theorem putL_bytes {bs : List UInt8} {spare : List Value} {j : Nat} {u : UInt8} (hj : j < bs.length) : putL (bs.map B ++ spare) (0 + j * 1) [B u] = (bs.set j u).map B ++ spare := by
  rw [Nat.zero_add, Nat.mul_one]
  show (bs.map B ++ spare).set j (B u) = _
  rw [List.set_append_left _ _ (by simpa using hj), List.map_set]
def turnL (l : List Pk) (k j : Nat) (m : UInt8) : List Pk := match l[k]? with
  | some p => l.set k { p with bs := p.bs.set j (p.bs.getD j 0 ^^^ m) }
  | none => l
def turnS (st : NetS) (k j : Int) (m : UInt8) : NetS := match st.pool[k.toNat]? with
  | some p => if (0 ≤ k ∧ k < st.pool.length) ∧ 0 ≤ j ∧ j < p.n then { st with pool := turnL st.pool k.toNat j.toNat m } else st
  | none => st
def turnE (st : NetS) (k j : Int) : Int := if 0 ≤ k ∧ k < st.pool.length then (match st.pool[k.toNat]? with | some p => if 0 ≤ j ∧ j < p.n then 0 else 143 | none => 143) else 141
theorem turnL_length (l : List Pk) (k j : Nat) (m : UInt8) : (turnL l k j m).length = l.length := by unfold turnL; split <;> simp
theorem turn_no1 {st : NetS} {k j : Int} {m : UInt8} (h : ¬ (0 ≤ k ∧ k < st.pool.length)) : turnS st k j m = st ∧ turnE st k j = 141 := by
  refine ⟨?_, if_neg h⟩
  unfold turnS; split
  · rw [if_neg (fun h2 => h h2.1)]
  rfl
theorem turn_no2 {st : NetS} {k : Nat} {j : Int} {m : UInt8} {p : Pk} (hp : st.pool[k]? = some p) (h : ¬ (0 ≤ j ∧ j < p.n)) : turnS st k j m = st ∧ turnE st k j = 143 := by
  have hk := (List.getElem?_eq_some_iff.1 hp).1
  have hp' : st.pool[(k : Int).toNat]? = some p := by simpa using hp
  refine ⟨?_, ?_⟩
  · unfold turnS; rw [hp']; simp only; rw [if_neg (fun h2 => h h2.2)]
  unfold turnE; rw [if_pos (by omega), hp']; simp only; rw [if_neg h]
theorem turn_yes {st : NetS} {k j : Nat} {m : UInt8} {p : Pk} (hp : st.pool[k]? = some p) (h : j < p.n) : turnS st k j m = { st with pool := st.pool.set k { p with bs := p.bs.set j (p.bs.getD j 0 ^^^ m) } } ∧ turnE st k j = 0 := by
  have hk := (List.getElem?_eq_some_iff.1 hp).1
  have hp' : st.pool[(k : Int).toNat]? = some p := by simpa using hp
  refine ⟨?_, ?_⟩
  · unfold turnS; rw [hp']; simp only; rw [if_pos (by omega)]; unfold turnL; simp only [Int.toNat_natCast, hp]
  unfold turnE; rw [if_pos (by omega), hp']; simp only; rw [if_pos (by omega)]
theorem turn_fin {W w : World} {F : List Seg} {b b1 : Nat} {st : NetS} {p : Pk} {k j : Nat} {m : UInt8} {spare : List Value} (hpb : p.a = some ⟨b1, 0, none⟩) (hp : st.pool[k]? = some p) (hj : j < p.n)
    (hxl : (p.bs.map B).length = p.n * 1) (hl : (p.bs.map B).length + spare.length = p.cap * 1) (hm : p.n ≤ p.cap) (hc : p.cap ≤ maxLen)
    (H : St W w (blk0 b1 (putL (p.bs.map B ++ spare) (0 + j * 1) [B (p.bs.getD j 0 ^^^ m)]) 5 :: Segs ((st.pool.map Pk.own).eraseIdx k) :: blk b st.cells 84 ::
      row 31 3 st.pa st.pool.length st.pcap (pks st.pool) :: row 31 3 st.ra st.record.length st.rcap (pks st.record) :: Segs (st.record.map Pk.own) :: kmap st.pm st.place :: kmap st.cm st.came :: F)) :
    St W w (netL b (turnS st k j m) F) := by
  have hk := (List.getElem?_eq_some_iff.1 hp).1
  have hbl : p.bs.length = p.n := by simpa using hxl
  rw [putL_bytes (by omega)] at H
  have H1 := St.rowShut (m := p.n) (cap := p.cap) (sz := 1) H (by simpa using hl) (by simpa using hbl) hm hc
  rw [← hpb] at H1
  have H2 := Segs.put (l := st.pool.map Pk.own) k (by simpa using hk) H1
  rw [(turn_yes (m := m) hp hj).1]
  have e1 : pks (st.pool.set k { p with bs := p.bs.set j (p.bs.getD j 0 ^^^ m) }) = pks st.pool := pks_set_same hp rfl
  have e2 : (st.pool.set k { p with bs := p.bs.set j (p.bs.getD j 0 ^^^ m) }).map Pk.own = (st.pool.map Pk.own).set k (row 5 1 p.a p.n p.cap ((p.bs.set j (p.bs.getD j 0 ^^^ m)).map B)) := by
    rw [List.map_set]; rfl
  have H3 := H2.pick [1, 2, 0, 3, 4, 5, 6] (pre := [_, _, _, _, _, _, _]) rfl rfl
  unfold netL NetS.cells
  unfold NetS.cells at H3
  simp only [e1, e2, List.length_set]
  exact H3
theorem Turn_ok {W w : World} {F : List Seg} {b : Nat} {st : NetS} (H : St W w (netL b st F)) (k j : Int) (m : UInt8) :
    Ok Try.prog 22 [.pointer (some ⟨b, 0, none⟩), .int .i64 k, .int .i64 j, B m].toArray w (fun v w' => v = .int .i64 (turnE st k j) ∧ St W w' (netL b (turnS st k j m) F)) := by
  refine enter (n := 47) (rs := #[.tmp 8]) Try.func22 rfl rfl rfl rfl ?_
  refine w_seq ?_
  refine w_region ?_
  refine l_pint rfl rfl ?_
  refine l_nil ?_
  refine w_seq ?_
  refine w_block ?_
  refine w_seq ?_
  refine w_region ?_
  refine l_pptr rfl rfl ?_
  refine l_v rfl (q_eqlNilF rfl pt_24 rfl rfl) ?_
  refine l_pbool rfl rfl ?_
  refine l_nil ?_
  refine w_cond_f rfl ?_
  refine w_seq ?_
  refine w_region ?_
  refine l_pptr rfl rfl ?_
  refine l_pint rfl rfl ?_
  refine b_call rfl cb_50 rfl (there_ok (i := 0) H rfl rfl k) (fun v w hv => ?_)
  obtain ⟨rfl, rfl⟩ := hv
  refine l_pbool rfl rfl ?_
  refine l_pbool rfl rfl ?_
  refine l_nil ?_
  refine w_cond rfl (fun c1 => ?_) (fun c1 => ?_)
  · try simp only [decide_eq_true_eq, decide_eq_false_iff_not, Bool.not_eq_true', Bool.not_eq_false', beq_iff_eq, beq_eq_false_iff_ne, bne_iff_ne, bne_eq_false_iff_eq, ne_eq, Int.not_lt, Int.not_le] at c1
    refine w_seq ?_
    refine w_region ?_
    refine l_pint rfl rfl ?_
    refine l_nil ?_
    refine w_ret ?_
    refine fin1 (v := .int _ _) rfl ?_
    obtain ⟨h1, h2⟩ := turn_no1 (m := m) (j := j) (fun h => by simp at c1; omega : ¬ (0 ≤ k ∧ k < (st.pool.length : Int)))
    exact ⟨by rw [h2], by rw [h1]; exact H⟩
  try simp only [decide_eq_true_eq, decide_eq_false_iff_not, Bool.not_eq_true', Bool.not_eq_false', beq_iff_eq, beq_eq_false_iff_ne, bne_iff_ne, bne_eq_false_iff_eq, ne_eq, Int.not_lt, Int.not_le] at c1
  have hk : 0 ≤ k ∧ k < (st.pool.length : Int) := by simpa using c1
  obtain ⟨k, rfl⟩ := Int.eq_ofNat_of_zero_le hk.1
  obtain ⟨p, hp⟩ : ∃ p, st.pool[k]? = some p := ⟨_, List.getElem?_eq_getElem (by omega)⟩
  obtain ⟨b0, o0, hpa, hcs⟩ := pk_cells (H.rowInv (i := 1) rfl).2.2.2.2 hp
  refine w_seq ?_
  refine w_region ?_
  refine l_pint rfl rfl ?_
  refine l_pbool rfl rfl ?_
  refine l_pbool rfl rfl ?_
  refine l_split 34 rfl (fun h34 => ?_) (fun h34 => ?_)
  · try simp only [decide_eq_true_eq, decide_eq_false_iff_not, Bool.not_eq_true', Bool.not_eq_false', beq_iff_eq, beq_eq_false_iff_ne, bne_iff_ne, bne_eq_false_iff_eq, ne_eq, Int.not_lt, Int.not_le] at h34
    refine l_no rfl ?_
    refine l_no rfl ?_
    refine l_no rfl ?_
    refine l_no rfl ?_
    refine l_no rfl ?_
    refine l_no rfl ?_
    refine l_no rfl ?_
    refine l_no rfl ?_
    refine l_no rfl ?_
    refine l_no rfl ?_
    refine l_no rfl ?_
    refine l_pickT (v := .bool _) rfl rfl rfl ?_
    refine l_pbool rfl rfl ?_
    refine l_nil ?_
    refine w_cond_t rfl ?_
    refine w_seq ?_
    refine w_region ?_
    refine l_pint rfl rfl ?_
    refine l_nil ?_
    refine w_ret ?_
    refine fin1 (v := .int _ _) rfl ?_
    obtain ⟨h1, h2⟩ := turn_no2 (m := m) (j := j) hp (fun h => by omega)
    exact ⟨by rw [h2], by rw [h1]; exact H⟩
  try simp only [decide_eq_true_eq, decide_eq_false_iff_not, Bool.not_eq_true', Bool.not_eq_false', beq_iff_eq, beq_eq_false_iff_ne, bne_iff_ne, bne_eq_false_iff_eq, ne_eq, Int.not_lt, Int.not_le] at h34
  refine l_pint rfl rfl ?_
  refine l_pptr rfl rfl ?_
  refine l_pptr rfl rfl ?_
  refine l_v rfl (q_fieldAddr rfl fo84_2 rfl) ?_
  refine l_v rfl (q_load1 rfl c1_22 rfl (by first | exact H.cell 0 rfl rfl | exact H.cell 1 rfl rfl | exact H.cell 2 rfl rfl | exact H.cell 3 rfl rfl | exact H.cell 4 rfl rfl | exact H.cell 5 rfl rfl | exact H.cell 6 rfl rfl | exact H.cell 7 rfl rfl | exact H.cell 8 rfl rfl | exact H.cell 9 rfl rfl)) ?_
  refine l_pint rfl rfl ?_
  refine l_v rfl (q_indexSliceA rfl el_22 rfl hpa rfl hk) ?_
  refine l_v rfl (q_fieldAddr rfl fo31_2 rfl) ?_
  refine l_v rfl (q_load1 rfl c1_29 rfl (hcs.get 2 _ rfl)) ?_
  refine l_v rfl (q_lenSlice rfl el_29 rfl) ?_
  refine l_pbool rfl rfl ?_
  refine l_pickF (v := .bool _) rfl rfl rfl ?_
  refine l_pbool rfl rfl ?_
  refine l_nil ?_
  refine w_cond rfl (fun c2 => ?_) (fun c2 => ?_)
  · try simp only [decide_eq_true_eq, decide_eq_false_iff_not, Bool.not_eq_true', Bool.not_eq_false', beq_iff_eq, beq_eq_false_iff_ne, bne_iff_ne, bne_eq_false_iff_eq, ne_eq, Int.not_lt, Int.not_le] at c2
    refine w_seq ?_
    refine w_region ?_
    refine l_pint rfl rfl ?_
    refine l_nil ?_
    refine w_ret ?_
    refine fin1 (v := .int _ _) rfl ?_
    obtain ⟨h1, h2⟩ := turn_no2 (m := m) (j := j) hp (fun h => by omega)
    exact ⟨by rw [h2], by rw [h1]; exact H⟩
  try simp only [decide_eq_true_eq, decide_eq_false_iff_not, Bool.not_eq_true', Bool.not_eq_false', beq_iff_eq, beq_eq_false_iff_ne, bne_iff_ne, bne_eq_false_iff_eq, ne_eq, Int.not_lt, Int.not_le] at c2
  have hj : 0 ≤ j ∧ j < (p.n : Int) := ⟨by simpa using h34, by simpa using c2⟩
  obtain ⟨j, rfl⟩ := Int.eq_ofNat_of_zero_le hj.1
  have hlen := pk_len H 2 rfl hp
  have hrd := (pk_own 2 rfl hp).use H 0 rfl
  obtain ⟨b1, o1, hpb, hcell⟩ := hrd j (B (p.bs.getD j 0)) (by rw [List.getElem?_map, List.getElem?_eq_getElem (by omega)]; simp [List.getD, List.getElem?_eq_getElem (show j < p.bs.length by omega)])
  obtain ⟨hT, hE⟩ := turn_yes (m := m) hp (show j < p.n by omega)
  refine w_region ?_
  refine l_pptr rfl rfl ?_
  refine l_pptr rfl rfl ?_
  refine l_v rfl (q_fieldAddr rfl fo84_2 rfl) ?_
  refine l_v rfl (q_load1 rfl c1_22 rfl (by first | exact H.cell 0 rfl rfl | exact H.cell 1 rfl rfl | exact H.cell 2 rfl rfl | exact H.cell 3 rfl rfl | exact H.cell 4 rfl rfl | exact H.cell 5 rfl rfl | exact H.cell 6 rfl rfl | exact H.cell 7 rfl rfl | exact H.cell 8 rfl rfl | exact H.cell 9 rfl rfl)) ?_
  refine l_pint rfl rfl ?_
  refine l_v rfl (q_indexSliceA rfl el_22 rfl hpa rfl hk) ?_
  refine l_v rfl (q_fieldAddr rfl fo31_2 rfl) ?_
  refine l_v rfl (q_load1 rfl c1_29 rfl (hcs.get 2 _ rfl)) ?_
  refine l_pint rfl rfl ?_
  refine l_v rfl (q_indexSliceA rfl el_29 rfl hpb rfl hj) ?_
  refine l_v rfl (q_load1 rfl c1_5 rfl (show _ = some (B (p.bs.getD j 0)) from by rw [← hcell]; congr 2; omega)) ?_
  refine l_pint rfl rfl ?_
  refine l_pint rfl rfl ?_
  refine l_v rfl (q_indexSliceA rfl el_29 rfl hpb rfl hj) ?_
  have H := Segs.take k (by rw [List.getElem?_map, hp]; rfl) (H.front 2 rfl)
  obtain ⟨rfl, hxl, hm, hcap, spare, hsp, H⟩ := rowOpenA hpb (show St W w (row 5 1 p.a p.n p.cap (p.bs.map B) :: _) from H)
  refine b_store0 (vs := [B (p.bs.getD j 0 ^^^ m)]) rfl sz_5 rfl (congrArg (Value.int .u8) (xor_B (p.bs.getD j 0) m)) rfl rfl rfl H 0 rfl (by simp only [List.length_append, List.length_cons, List.length_nil, hxl]; omega) (fun w H => ?_)
  refine l_nil ?_
  refine w_seq ?_
  refine w_region ?_
  refine l_pint rfl rfl ?_
  refine l_nil ?_
  refine w_ret ?_
  refine fin1 (v := .int _ _) rfl ?_
  exact ⟨by rw [hE], turn_fin hpb hp (by omega) hxl hsp hm hcap H⟩
end Go.Proofs.Ytmgcmgfjaimlnaa
